/-
  seal.number: what it comes to, by a walk of its text.
-/
import Derived.Test.YtcdklmicbbcknaaNr
namespace Go.Proofs.Ytcdklmicbbcknaa
open Go Go.RowKit
def numL (b : List UInt8) (at_ most : Nat) : Nat × Nat × Nat := ((readL b at_).1, (readL b at_).2.1, if (readL b at_).2.2 = 0 ∧ most < (readL b at_).1 then 3 else (readL b at_).2.2)
set_option maxRecDepth 20000 in
set_option maxHeartbeats 4000000 in
theorem number_any (A : Option Addr) (l : List UInt8) (c at_ most : Nat) (w : World) (hat : at_ ≤ l.length) (hl : l.length ≤ 1000000000) (hB : Bts w A l) (hm : most ≤ 1048576) (n t cd : Nat) (hN : Hid (numL l at_ most = (n, t, cd))) :
    Calls Try.prog 70 #[.slice A l.length c, .int .i64 at_, .int .i64 most] w fun e w' => ∃ z, e = .returned (.tuple #[.int .i64 z, .int .i64 t, .int .i64 cd]) ∧ (cd = 0 → z = n ∧ n ≤ most) ∧ w = w' := by
  go_enter Try.func70, Try.ntmps70
  go_wp2_with fail
  refine (read_any A l c at_ _ hat hl hB).mono ?_
  rintro e w' ⟨rfl, rfl⟩
  have h := hN.out
  unfold numL at h
  unfold retR
  generalize readL l at_ = R at *
  obtain ⟨r0, t0, c0⟩ := R
  clear hN hB
  simp only [Prod.mk.injEq] at h
  obtain ⟨rfl, rfl, h3⟩ := h
  dsimp only
  have hmI : (most : Int) ≤ 1048576 := by omega
  by_cases h0 : c0 = 0
  · subst h0
    by_cases hbig : most < r0
    · rw [if_pos ⟨rfl, hbig⟩] at h3
      subst h3
      go_wp2
      exact bodyPost_ret (v := .tuple #[.int .i64 (wrap64 (r0 : Int)), .int .i64 t0, .int .i64 3]) (by simp [results, Try.results70, go_sem]) rfl ⟨_, rfl, fun h => absurd h (by decide), rfl⟩
    · rw [if_neg (fun h => hbig h.2)] at h3
      subst h3
      have hr0 : r0 ≤ 1048576 := by omega
      go_wp2
      exact bodyPost_ret (v := .tuple #[.int .i64 (r0 : Int), .int .i64 t0, .int .i64 0]) (by simp [results, Try.results70, go_sem]) rfl ⟨_, rfl, ⟨rfl, by omega⟩, rfl⟩
  · rw [if_neg (fun h => h0 h.1)] at h3
    subst h3
    have h0I : ((c0 : Int) == 0) = false := beq_eq_false_iff_ne.2 (by omega)
    go_wp2
    exact bodyPost_ret (v := .tuple #[.int .i64 (wrap64 (r0 : Int)), .int .i64 t0, .int .i64 c0]) (by simp [results, Try.results70, go_sem]) rfl ⟨_, rfl, fun h => absurd h h0, rfl⟩
end Go.Proofs.Ytcdklmicbbcknaa
