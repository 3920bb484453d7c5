/-
  The reference's num and Open (where it fails ahead of the tag): walks of their text (printed by rq.py).
-/
import Derived.Test.YtcdklmicbbcknaaRg
import Derived.Test.YtcdklmicbbcknaaSx
import Derived.Test.YtcdklmicbbcknaaRx
import Derived.Test.YtcdklmicbbcknaaSa
namespace Go.Proofs.Ytcdklmicbbcknaa
open Go Go.RowKit
set_option linter.unusedVariables false
theorem rdL_code (b : List UInt8) (at_ : Nat) : ∀ (f n u k : Nat), (rdL b at_ f n u k).2.2 = 0 ∨ ((rdL b at_ f n u k).1 = 0 ∧ (rdL b at_ f n u k).2.1 = at_ ∧ ((rdL b at_ f n u k).2.2 = 3 ∨ (rdL b at_ f n u k).2.2 = 5))
  | 0, _, _, _ => .inr ⟨rfl, rfl, .inr rfl⟩
  | f + 1, n, u, k => by
    rw [rdL]
    split
    · exact .inr ⟨rfl, rfl, .inr rfl⟩
    · split
      · split
        · exact .inr ⟨rfl, rfl, .inl rfl⟩
        · split
          · exact .inr ⟨rfl, rfl, .inr rfl⟩
          · split
            · exact .inr ⟨rfl, rfl, .inl rfl⟩
            · exact rdL_code b at_ f _ _ _
      · split
        · exact .inr ⟨rfl, rfl, .inl rfl⟩
        · exact .inl rfl
set_option maxRecDepth 20000 in
set_option maxHeartbeats 8000000 in
theorem rnum_any (s : ByteArray) (at_ most : Nat) (z : Int) (hz : z = at_) (w : World) (hat : at_ ≤ s.size) (hs : s.size ≤ 1000000000) (hm : most ≤ 1048576) (n t cd : Nat) (hN : Hid (numL s.data.toList at_ most = (n, t, cd))) (m : Int) (hmm : m = most) :
    Calls Try.prog 71 #[.string s, .int .i64 z, .int .u64 m] w fun e w' => (cd = 0 → e = .returned (.tuple #[.int .i64 n, .int .i64 t, .int .i64 0]) ∧ n ≤ most) ∧ (cd ≠ 0 → ∃ z1 z2, e = .returned (.tuple #[.int .i64 z1, .int .i64 z2, .int .i64 cd])) ∧ w = w' := by
  subst hz hmm
  have h := hN.out
  unfold numL at h
  have hcode := rdL_code s.data.toList at_ 9 0 1 at_
  change (readL s.data.toList at_).2.2 = 0 ∨ _ at hcode
  have hR : Hid (readL s.data.toList at_ = readL s.data.toList at_) := rfl
  obtain ⟨r0, t0, c0, hr⟩ : ∃ r0 t0 c0, Hid (readL s.data.toList at_ = (r0, t0, c0)) := ⟨_, _, _, rfl⟩
  rw [hr.out] at h
  change (readL s.data.toList at_).2.2 = 0 ∨ ((readL s.data.toList at_).1 = 0 ∧ (readL s.data.toList at_).2.1 = at_ ∧ ((readL s.data.toList at_).2.2 = 3 ∨ (readL s.data.toList at_).2.2 = 5)) at hcode
  rw [hr.out] at hcode
  dsimp only at hcode h
  simp only [Prod.mk.injEq] at h
  obtain ⟨rfl, rfl, h3⟩ := h
  clear hR
  have hg := rget_any s at_ w hat hs
  have hru := runs_any s at_ w hat hs
  rw [hr.out] at hg hru
  dsimp only at hru
  have HG := Lib.hid hg
  have HRU := Lib.hid hru
  clear hg hru hr hN
  rcases hcode with h0 | ⟨h1, h2, h5⟩
  · subst h0
    rw [rgV, if_pos rfl] at HG
    dsimp only at HG
    by_cases hbig : most < r0
    · rw [if_pos ⟨rfl, hbig⟩] at h3
      subst h3
      have hbI : (most : Int) < (r0 : Int) := by omega
      go_enter Try.func71, Try.ntmps71
      go_wp2_with fail
      refine HG.out.mono ?_
      rintro e w' ⟨rfl, rfl⟩
      go_wp2_with fail
      exact bodyPost_ret (v := .tuple #[.int .i64 0, .int .i64 at_, .int .i64 3]) (by simp [results, Try.results71, go_sem]) rfl ⟨fun h => absurd h (by decide), fun _ => ⟨_, _, rfl⟩, rfl⟩
    · rw [if_neg (fun h => hbig h.2)] at h3
      subst h3
      have hbI : ¬ (most : Int) < (r0 : Int) := by omega
      have hrs : r0 ≤ 1048576 := by omega
      go_enter Try.func71, Try.ntmps71
      go_wp2_with fail
      refine HG.out.mono ?_
      rintro e w' ⟨rfl, rfl⟩
      go_wp2_with fail
      exact bodyPost_ret (v := .tuple #[.int .i64 r0, .int .i64 t0, .int .i64 0]) (by simp [results, Try.results71, go_sem]) rfl ⟨fun _ => ⟨rfl, by omega⟩, fun h => absurd rfl h, rfl⟩
  · have hc0 : c0 ≠ 0 := by omega
    rw [if_neg (fun h => hc0 h.1)] at h3
    subst h3
    rw [rgV, if_neg (by exact hc0)] at HG
    go_enter Try.func71, Try.ntmps71
    go_wp2_with fail
    refine HG.out.mono ?_
    rintro e w' ⟨rfl, rfl⟩
    go_wp2_with fail
    refine HRU.out.mono ?_
    rintro e w' ⟨rfl, rfl⟩
    rcases h5 with rfl | rfl
    · go_wp2_with fail
      exact bodyPost_ret (v := .tuple #[.int .i64 0, .int .i64 at_, .int .i64 3]) (by simp [results, Try.results71, go_sem]) rfl ⟨fun h => absurd h (by decide), fun _ => ⟨_, _, rfl⟩, rfl⟩
    · go_wp2_with fail
      exact bodyPost_ret (v := .tuple #[.int .i64 0, .int .i64 at_, .int .i64 5]) (by simp [results, Try.results71, go_sem]) rfl ⟨fun h => absurd h (by decide), fun _ => ⟨_, _, rfl⟩, rfl⟩
set_option maxRecDepth 20000 in
set_option maxHeartbeats 8000000 in
theorem ropen_1 (k : K8) (s : ByteArray) (at_ : Nat) (place : Int) (w : World) (hl : s.size ≤ 100000) (h : at_ = s.size) :
    Calls Try.prog 60 #[.agg #[.int .u32 (W k.k0), .int .u32 (W k.k1), .int .u32 (W k.k2), .int .u32 (W k.k3), .int .u32 (W k.k4), .int .u32 (W k.k5), .int .u32 (W k.k6), .int .u32 (W k.k7)], .string s, .int .i64 at_, .int .i64 place] w fun e w' => e = .returned (.tuple #[zseg, .int .i64 at_, .int .i64 5]) ∧ Below w.heap.size w w' := by
  have hb0 : Below w.heap.size w ((w.alloc (.cells #[.int .u32 (W k.k0), .int .u32 (W k.k1), .int .u32 (W k.k2), .int .u32 (W k.k3), .int .u32 (W k.k4), .int .u32 (W k.k5), .int .u32 (W k.k6), .int .u32 (W k.k7)] 32)).alloc (.cells #[.int .i64 0, .int .i64 0, .bool false, .slice none 0 0] 81)) := ((Below.refl _ _).alloc (Nat.le_refl _) _).alloc (by simp) _
  subst h
  go_enter Try.func60, Try.ntmps60
  go_wp2_with fail
  exact bodyPost_ret (v := .tuple #[zseg, .int .i64 s.size, .int .i64 5]) (by simp [results, Try.results60, go_sem, zseg]) rfl ⟨rfl, hb0⟩
set_option maxRecDepth 20000 in
set_option maxHeartbeats 8000000 in
theorem ropen_1b (k : K8) (s : ByteArray) (at_ : Nat) (place : Int) (w : World) (hl : s.size ≤ 100000) (h : at_ < s.size) (y : Nat) (hy : s[at_].toNat = y) (h2 : y < 1 ∨ 3 < y) :
    Calls Try.prog 60 #[.agg #[.int .u32 (W k.k0), .int .u32 (W k.k1), .int .u32 (W k.k2), .int .u32 (W k.k3), .int .u32 (W k.k4), .int .u32 (W k.k5), .int .u32 (W k.k6), .int .u32 (W k.k7)], .string s, .int .i64 at_, .int .i64 place] w fun e w' => e = .returned (.tuple #[zseg, .int .i64 at_, .int .i64 3]) ∧ Below w.heap.size w w' := by
  have hb0 : Below w.heap.size w ((w.alloc (.cells #[.int .u32 (W k.k0), .int .u32 (W k.k1), .int .u32 (W k.k2), .int .u32 (W k.k3), .int .u32 (W k.k4), .int .u32 (W k.k5), .int .u32 (W k.k6), .int .u32 (W k.k7)] 32)).alloc (.cells #[.int .i64 0, .int .i64 0, .bool false, .slice none 0 0] 81)) := ((Below.refl _ _).alloc (Nat.le_refl _) _).alloc (by simp) _
  have hyI : (s[at_].toNat : Int) = (y : Int) := by omega
  have hyb : y < 256 := by rw [← hy]; exact UInt8.toNat_lt _
  have hb1 := hb0.alloc (by simp; omega) (.cells #[.int .i64 y, .int .i64 0, .bool false, .slice none 0 0] 81)
  clear hy
  rcases h2 with h2 | h2
  all_goals (
    go_enter Try.func60, Try.ntmps60
    go_wp2_with fail
    exact bodyPost_ret (v := .tuple #[zseg, .int .i64 at_, .int .i64 3]) (by simp [results, Try.results60, go_sem, zseg]) rfl ⟨rfl, hb1⟩)
set_option maxRecDepth 20000 in
set_option maxHeartbeats 8000000 in
theorem ropen_2 (k : K8) (s : ByteArray) (at_ : Nat) (place : Int) (w : World) (hl : s.size ≤ 100000) (h : at_ < s.size) (y : Nat) (hy : Hid (s[at_].toNat = y)) (hy1 : 1 ≤ y) (hy3 : y ≤ 3) (n t cd : Nat) (hN : Hid (numL s.data.toList (at_ + 1) 1048576 = (n, t, cd))) (hcd : cd ≠ 0) :
    Calls Try.prog 60 #[.agg #[.int .u32 (W k.k0), .int .u32 (W k.k1), .int .u32 (W k.k2), .int .u32 (W k.k3), .int .u32 (W k.k4), .int .u32 (W k.k5), .int .u32 (W k.k6), .int .u32 (W k.k7)], .string s, .int .i64 at_, .int .i64 place] w fun e w' => e = .returned (.tuple #[zseg, .int .i64 at_, .int .i64 cd]) ∧ Below w.heap.size w w' := by
  have hb0 : Below w.heap.size w ((w.alloc (.cells #[.int .u32 (W k.k0), .int .u32 (W k.k1), .int .u32 (W k.k2), .int .u32 (W k.k3), .int .u32 (W k.k4), .int .u32 (W k.k5), .int .u32 (W k.k6), .int .u32 (W k.k7)] 32)).alloc (.cells #[.int .i64 0, .int .i64 0, .bool false, .slice none 0 0] 81)) := ((Below.refl _ _).alloc (Nat.le_refl _) _).alloc (by simp) _
  have hyI : (s[at_].toNat : Int) = (y : Int) := by have := hy.out; omega
  have hb1 := hb0.alloc (by simp; omega) (.cells #[.int .i64 y, .int .i64 0, .bool false, .slice none 0 0] 81)
  have hcI : ((cd : Int) == 0) = false := beq_eq_false_iff_ne.2 (by omega)
  go_enter Try.func60, Try.ntmps60
  go_wp2_with fail
  refine (rnum_any s (at_ + 1) 1048576 _ (by omega) _ (by omega) (by omega) (by omega) n t cd hN _ rfl).mono ?_
  rintro e w1 ⟨_, hq, rfl⟩
  obtain ⟨z1, z2, rfl⟩ := hq hcd
  go_wp2_with fail
  exact bodyPost_ret (v := .tuple #[zseg, .int .i64 at_, .int .i64 cd]) (by simp [results, Try.results60, go_sem, zseg]) rfl ⟨rfl, hb1⟩
set_option maxRecDepth 20000 in
set_option maxHeartbeats 8000000 in
theorem ropen_3 (k : K8) (s : ByteArray) (at_ : Nat) (place : Int) (w : World) (hl : s.size ≤ 100000) (h : at_ < s.size) (y : Nat) (hy : Hid (s[at_].toNat = y)) (hy1 : 1 ≤ y) (hy3 : y ≤ 3) (P t : Nat) (hN : Hid (numL s.data.toList (at_ + 1) 1048576 = (P, t, 0))) (ht : t ≤ s.size) (n t2 cd : Nat) (hN2 : Hid (numL s.data.toList t 12100 = (n, t2, cd))) (hcd : cd ≠ 0) :
    Calls Try.prog 60 #[.agg #[.int .u32 (W k.k0), .int .u32 (W k.k1), .int .u32 (W k.k2), .int .u32 (W k.k3), .int .u32 (W k.k4), .int .u32 (W k.k5), .int .u32 (W k.k6), .int .u32 (W k.k7)], .string s, .int .i64 at_, .int .i64 place] w fun e w' => e = .returned (.tuple #[zseg, .int .i64 at_, .int .i64 cd]) ∧ Below w.heap.size w w' := by
  have hb0 : Below w.heap.size w ((w.alloc (.cells #[.int .u32 (W k.k0), .int .u32 (W k.k1), .int .u32 (W k.k2), .int .u32 (W k.k3), .int .u32 (W k.k4), .int .u32 (W k.k5), .int .u32 (W k.k6), .int .u32 (W k.k7)] 32)).alloc (.cells #[.int .i64 0, .int .i64 0, .bool false, .slice none 0 0] 81)) := ((Below.refl _ _).alloc (Nat.le_refl _) _).alloc (by simp) _
  have hyI : (s[at_].toNat : Int) = (y : Int) := by have := hy.out; omega
  have hb1 := hb0.alloc (by simp; omega) (.cells #[.int .i64 y, .int .i64 0, .bool false, .slice none 0 0] 81)
  have hcI : ((cd : Int) == 0) = false := beq_eq_false_iff_ne.2 (by omega)
  go_enter Try.func60, Try.ntmps60
  go_wp2_with fail
  refine (rnum_any s (at_ + 1) 1048576 _ (by omega) _ (by omega) (by omega) (by omega) P t 0 hN _ rfl).mono ?_
  rintro e w1 ⟨hq, _, rfl⟩
  obtain ⟨rfl, hPm⟩ := hq rfl
  clear hq
  go_wp2_with fail
  refine (rnum_any s t 12100 _ rfl _ ht (by omega) (by omega) n t2 cd hN2 _ rfl).mono ?_
  rintro e w1 ⟨_, hq, rfl⟩
  obtain ⟨z1, z2, rfl⟩ := hq hcd
  go_wp2_with fail
  exact bodyPost_ret (v := .tuple #[zseg, .int .i64 at_, .int .i64 cd]) (by simp [results, Try.results60, go_sem, zseg]) rfl ⟨rfl, hb1⟩
set_option maxRecDepth 20000 in
set_option maxHeartbeats 8000000 in
theorem ropen_4 (k : K8) (s : ByteArray) (at_ : Nat) (place : Int) (w : World) (hl : s.size ≤ 100000) (h : at_ < s.size) (y : Nat) (hy : Hid (s[at_].toNat = y)) (hy1 : 1 ≤ y) (hy3 : y ≤ 3) (P t : Nat) (hN : Hid (numL s.data.toList (at_ + 1) 1048576 = (P, t, 0))) (ht : t ≤ s.size) (n t2 : Nat) (hN2 : Hid (numL s.data.toList t 12100 = (n, t2, 0))) (ht2 : t2 ≤ s.size) (hcut : s.size - t2 < n + 8) :
    Calls Try.prog 60 #[.agg #[.int .u32 (W k.k0), .int .u32 (W k.k1), .int .u32 (W k.k2), .int .u32 (W k.k3), .int .u32 (W k.k4), .int .u32 (W k.k5), .int .u32 (W k.k6), .int .u32 (W k.k7)], .string s, .int .i64 at_, .int .i64 place] w fun e w' => e = .returned (.tuple #[zseg, .int .i64 at_, .int .i64 5]) ∧ Below w.heap.size w w' := by
  have hb0 : Below w.heap.size w ((w.alloc (.cells #[.int .u32 (W k.k0), .int .u32 (W k.k1), .int .u32 (W k.k2), .int .u32 (W k.k3), .int .u32 (W k.k4), .int .u32 (W k.k5), .int .u32 (W k.k6), .int .u32 (W k.k7)] 32)).alloc (.cells #[.int .i64 0, .int .i64 0, .bool false, .slice none 0 0] 81)) := ((Below.refl _ _).alloc (Nat.le_refl _) _).alloc (by simp) _
  have hyI : (s[at_].toNat : Int) = (y : Int) := by have := hy.out; omega
  have hb1 := hb0.alloc (by simp; omega) (.cells #[.int .i64 y, .int .i64 0, .bool false, .slice none 0 0] 81)
  go_enter Try.func60, Try.ntmps60
  go_wp2_with fail
  refine (rnum_any s (at_ + 1) 1048576 _ (by omega) _ (by omega) (by omega) (by omega) P t 0 hN _ rfl).mono ?_
  rintro e w1 ⟨hq, _, rfl⟩
  obtain ⟨rfl, hPm⟩ := hq rfl
  clear hq
  go_wp2_with fail
  refine (rnum_any s t 12100 _ rfl _ ht (by omega) (by omega) n t2 0 hN2 _ rfl).mono ?_
  rintro e w1 ⟨hq, _, rfl⟩
  obtain ⟨rfl, hnm⟩ := hq rfl
  clear hq
  have hcI : (s.size : Int) < (t2 : Int) + (n : Int) + 8 := by omega
  go_wp2_with fail
  exact bodyPost_ret (v := .tuple #[zseg, .int .i64 at_, .int .i64 5]) (by simp [results, Try.results60, go_sem, zseg]) rfl ⟨rfl, hb1⟩
end Go.Proofs.Ytcdklmicbbcknaa
