/-
  num.Read: what it comes to, by a walk of its text.
-/
import Derived.Test.YtcdklmicbbcknaaNp
import Derived.Test.YtcdklmicbbcknaaXo
import Derived.Test.YtcdklmicbbcknaaGo
import Derived.WalkSpells
import Derived.WalkLawsBesides
namespace Go.Proofs.Ytcdklmicbbcknaa
open Go Go.RowKit
def rdFr (A : Option Addr) (len c at_ n u k : Nat) : List (Option Value) :=
  some (.slice A len c) :: some (.int .i64 at_) :: none :: none :: none :: none :: none :: some (.int .u64 n) :: some (.int .u64 u) :: some (.int .i64 k) :: List.replicate 80 none
def retR (R : Nat × Nat × Nat) : Value := .tuple #[.int .u64 R.1, .int .i64 R.2.1, .int .i64 R.2.2]
set_option maxRecDepth 20000 in
set_option maxHeartbeats 8000000 in
theorem read_any (A : Option Addr) (l : List UInt8) (c at_ : Nat) (w : World) (hat : at_ ≤ l.length) (hl : l.length ≤ 1000000000) (hB : Bts w A l) :
    Calls Try.prog 63 #[.slice A l.length c, .int .i64 at_] w fun e w' => e = .returned (retR (readL l at_)) ∧ w = w' := by
  go_enter Try.func63, Try.ntmps63
  go_wp2_with fail
  refine wp_scope_back 0 (fun a' w' => w = w' ∧ ∃ i nn u k : Nat, i ≤ 8 ∧ nn ≤ 18446744073709551615 ∧ k ≤ l.length ∧ k = at_ + 2 * i ∧ 1 ≤ u ∧ u ≤ 15258789062500000000 ∧ (i < 8 → u * 250 ≤ 15258789062500000000) ∧ Hid (rdL l at_ (9 - i) nn u k = readL l at_) ∧ Hid (u = 250 ^ i) ∧ FrameIs (rdFr A l.length c at_ nn u k) a')
    (fun a' _ => l.length + 1 - (intOf (a'.tmps.getD 9 undef)).toNat) rfl ?_ ?_
  · intro hp
    go_wp2_with fail
    go_step3
    rename_i hk
    refine hk _ _ ?_
    exact hp.out _ _ ⟨rfl, 0, 0, 1, at_, by omega, by omega, hat, by omega, by omega, by omega, by omega, rfl, rfl, ⟨rfl, rfl, rfl, rfl, rfl, trivial⟩, rfl⟩
  · rintro a' w' ⟨rfl, i, nn, u, k, hi, hn, hk, hki, hu1, hu2, hu8, hR, hu, hf⟩
    refine pass_frame hf ?_
    intro u2 u3 u4 u5 u6 u10 u11 u12 u13 u14 u15 u16 u17 u18 u19 u20 u21 u22 u23 u24 u25 u26 u27 u28 u29 u30 u31 u32 u33 u34 u35 u36 u37 u38 u39 u40 u41 u42 u43 u44 u45 u46 u47 u48 u49 u50 u51 u52 u53 u54 u55 u56 u57 u58 u59 u60 u61 u62 u63 u64 u65 u66 u67 u68 u69 u70 u71 u72 u73 u74 u75 u76 u77 u78 u79 u80 u81 u82 u83 u84 u85 u86 u87 u88 u89
    dsimp only [AllFit, List.replicate_zero]
    have hR1 := hR.out
    rw [show 9 - i = 8 - i + 1 by omega, rdL] at hR1
    have hnI : (nn : Int) ≤ 18446744073709551615 := by omega
    have huI : (u : Int) ≤ 15258789062500000000 := by omega
    have huJ : (1 : Int) ≤ (u : Int) := by omega
    have hdiv : (18446744073709551615 - (nn : Int)) / (u : Int) = (((18446744073709551615 - nn) / u : Nat) : Int) := by
      have e : (18446744073709551615 - (nn : Int)) = ((18446744073709551615 - nn : Nat) : Int) := by omega
      rw [e]; rfl
    have HKI := Lib.hid hki
    have hka : at_ ≤ k := by omega
    have hi3 : 16 ≤ k - at_ ∨ i < 8 := by omega
    clear hki hi hf
    by_cases h1 : k = l.length
    · rw [if_pos h1] at hR1
      have HR := Lib.hid hR1
      clear hR1 hR
      go_wp2_with fail
      simp only [Exit.jump]
      refine bodyPost_ret (v := retR (0, at_, 5)) (by simp [results, Try.results63, go_sem, retR]) rfl ⟨by rw [HR.out], rfl⟩
    · rw [if_neg h1] at hR1
      have hB0 := hB
      obtain ⟨b, o, rfl, hbs, hcs⟩ := hB (by omega)
      have hc0 := hcs k (by omega)
      have hyb := UInt8.toNat_lt (l.getD k 0)
      generalize (l.getD k 0).toNat = y at *
      generalize hQ : (18446744073709551615 - nn) / u = Q at *
      by_cases h2 : y = 250
      · rw [if_pos h2] at hR1
        subst h2
        by_cases h3 : 16 ≤ k - at_
        · rw [if_pos h3] at hR1
          have HR := Lib.hid hR1
          clear hR1 hR
          go_wp2_with fail
          simp only [Exit.jump]
          exact bodyPost_ret (v := retR (0, at_, 3)) (by simp [results, Try.results63, go_sem, retR]) rfl ⟨by rw [HR.out], rfl⟩
        · rw [if_neg h3] at hR1
          by_cases h4 : k + 1 = l.length
          · rw [if_pos h4] at hR1
            have HR := Lib.hid hR1
            clear hR1 hR
            go_wp2_with fail
            simp only [Exit.jump]
            exact bodyPost_ret (v := retR (0, at_, 5)) (by simp [results, Try.results63, go_sem, retR]) rfl ⟨by rw [HR.out], rfl⟩
          · rw [if_neg h4] at hR1
            have hc1 := hcs (k + 1) (by omega)
            have hzb := UInt8.toNat_lt (l.getD (k + 1) 0)
            generalize (l.getD (k + 1) 0).toNat = z at *
            clear hcs hB0 hB
            by_cases h5 : 250 ≤ z
            · rw [if_pos (Or.inl h5)] at hR1
              have HR := Lib.hid hR1
              clear hR1 hR
              go_wp2_with fail
              simp only [Exit.jump]
              exact bodyPost_ret (v := retR (0, at_, 3)) (by simp [results, Try.results63, go_sem, retR]) rfl ⟨by rw [HR.out], rfl⟩
            · by_cases h6 : Q < z
              · rw [if_pos (Or.inr h6)] at hR1
                have HR := Lib.hid hR1
                clear hR1 hR
                go_wp2_with fail
                simp only [Exit.jump]
                exact bodyPost_ret (v := retR (0, at_, 3)) (by simp [results, Try.results63, go_sem, retR]) rfl ⟨by rw [HR.out], rfl⟩
              · have h7 := div_ok' hu1 hn (by rw [hQ]; exact h6)
                have hp : (0 : Int) ≤ (z : Int) * (u : Int) ∧ (z : Int) * (u : Int) ≤ 18446744073709551615 - (nn : Int) := by
                  have e : ((z * u : Nat) : Int) = (z : Int) * (u : Int) := Int.natCast_mul z u
                  omega
                obtain ⟨hp0, hp1⟩ := hp
                have hi8 : i < 8 := by omega
                have h8 := hu8 hi8
                have h8I : (u : Int) * 250 ≤ 15258789062500000000 := by omega
                rw [if_neg (by omega)] at hR1
                have HR := Lib.hid hR1
                clear hR1 hR hQ hu8 hi3
                go_wp2_with fail
                go_step3
                have hu9 : u * 250 = 250 ^ (i + 1) := by rw [Nat.pow_succ, hu.out]
                have hki2 := HKI.out
                refine ⟨rfl, ⟨rfl, i + 1, nn + z * u, u * 250, k + 2, by omega, h7, by omega, by omega, by omega, h8, fun hi7 => ?_, ?_, hu9, ⟨rfl, rfl, ?_, ?_, ?_, trivial⟩, rfl⟩, by simp [intOf]; omega⟩
                · have := pow_u (i + 1 + 1) (by omega)
                  rw [hu9, ← Nat.pow_succ]; exact this.2
                · rw [show 9 - (i + 1) = 8 - i by omega]; exact HR
                · simp
                · simp
                · simp; omega
      · rw [if_neg h2] at hR1
        have hu0 : ¬ u = 0 := by omega
        clear hcs hB hB0
        by_cases h5 : 250 ≤ y
        · rw [if_pos (Or.inl h5)] at hR1
          have HR := Lib.hid hR1
          clear hR1 hR
          go_wp2_with fail
          simp only [Exit.jump]
          exact bodyPost_ret (v := retR (0, at_, 3)) (by simp [results, Try.results63, go_sem, retR]) rfl ⟨by rw [HR.out], rfl⟩
        · by_cases h6 : y = 0 ∧ at_ < k
          · rw [if_pos (Or.inr (Or.inl h6))] at hR1
            have HR := Lib.hid hR1
            clear hR1 hR
            go_wp2_with fail
            simp only [Exit.jump]
            exact bodyPost_ret (v := retR (0, at_, 3)) (by simp [results, Try.results63, go_sem, retR]) rfl ⟨by rw [HR.out], rfl⟩
          · by_cases h7 : Q < y
            · rw [if_pos (Or.inr (Or.inr h7))] at hR1
              have HR := Lib.hid hR1
              clear hR1 hR
              go_wp2_with fail
              simp only [Exit.jump]
              exact bodyPost_ret (v := retR (0, at_, 3)) (by simp [results, Try.results63, go_sem, retR]) rfl ⟨by rw [HR.out], rfl⟩
            · have h8 := div_ok' hu1 hn (by rw [hQ]; exact h7)
              have hp : (0 : Int) ≤ (y : Int) * (u : Int) ∧ (y : Int) * (u : Int) ≤ 18446744073709551615 - (nn : Int) := by
                have e : ((y * u : Nat) : Int) = (y : Int) * (u : Int) := Int.natCast_mul y u
                omega
              obtain ⟨hp0, hp1⟩ := hp
              rw [if_neg (by rintro (hh | hh | hh) <;> omega)] at hR1
              have HR := Lib.hid hR1
              clear hR1 hR hQ hu8 hi3
              rcases Nat.eq_zero_or_pos y with rfl | hy0
              all_goals (go_wp2_with fail)
              · simp only [Exit.jump]
                exact bodyPost_ret (v := retR (nn + 0 * u, k + 1, 0)) (by simp [results, Try.results63, go_sem, retR]) rfl ⟨by rw [HR.out], rfl⟩
              · simp only [Exit.jump]
                exact bodyPost_ret (v := retR (nn + y * u, k + 1, 0)) (by simp [results, Try.results63, go_sem, retR]) rfl ⟨by rw [HR.out], rfl⟩
end Go.Proofs.Ytcdklmicbbcknaa
