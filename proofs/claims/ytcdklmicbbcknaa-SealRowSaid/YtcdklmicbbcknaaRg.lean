/-
  The reference of numbers (runs, Get): what they come to, by walks of their text.
-/
import Derived.Test.YtcdklmicbbcknaaSn
import Derived.Test.YtcdklmicbbcknaaTs
namespace Go.Proofs.Ytcdklmicbbcknaa
open Go Go.RowKit
theorem no_over (i n d : Nat) (hi : i ≤ 7) (hn : n < 250 ^ i) (hd : d < 250) : ¬ (18446744073709551615 - n) / 250 ^ i < d ∧ n + d * 250 ^ i < 250 ^ (i + 1) ∧ d * 250 ^ i ≤ 18446744073709551615 - n := by
  have h1 := (pow_u i (by omega)).1
  have h2 := (pow_u (i + 1) (by omega)).2
  have h3 : d * 250 ^ i ≤ 249 * 250 ^ i := Nat.mul_le_mul_right _ (by omega)
  have h4 : 250 ^ (i + 1) = 250 * 250 ^ i := by rw [Nat.pow_succ, Nat.mul_comm]
  have h5 : n + d * 250 ^ i < 250 ^ (i + 1) := by omega
  exact ⟨div_ok h1 (by omega), h5, by omega⟩
def Run (s : ByteArray) (at_ k : Nat) : Prop := (∃ i n, i ≤ 8 ∧ k = at_ + 2 * i ∧ k ≤ s.size ∧ n < 250 ^ i ∧ rdL s.data.toList at_ (9 - i) n (250 ^ i) k = readL s.data.toList at_) ∨ (k = s.size + 1 ∧ (readL s.data.toList at_).2.2 = 5)
set_option maxRecDepth 20000 in
set_option maxHeartbeats 8000000 in
theorem runs_any (s : ByteArray) (at_ : Nat) (w : World) (hat : at_ ≤ s.size) (hs : s.size ≤ 1000000000) :
    Calls Try.prog 74 #[.string s, .int .i64 at_] w fun e w' => e = .returned (.bool (decide ((readL s.data.toList at_).2.2 = 5))) ∧ w = w' := by
  have hl : Hid (s.data.toList.length = s.size) := rfl
  go_enter Try.func74, Try.ntmps74
  go_wp2_with fail
  go_loopw [5] (fun x wr => ∃ k : Nat, k ≤ s.size + 1 ∧ x = .int .i64 k ∧ wr = w ∧ Hid (Run s at_ k)) (fun x _ => s.size + 2 - (intOf x).toNat)
  case atStart => exact ⟨at_, by omega, rfl, rfl, Lib.hid (.inl ⟨0, 0, by omega, by omega, hat, by decide, rfl⟩)⟩
  case round =>
    obtain ⟨k, hk, rfl, rfl, hrun⟩ := hrel
    rcases hrun.out with ⟨i, n, hi, hki, hks, hn, hR⟩ | ⟨rfl, h5⟩
    · rw [show 9 - i = 8 - i + 1 by omega, rdL, hl.out] at hR
      by_cases h1 : k = s.size
      · rw [if_pos h1] at hR
        have hd : Hid (decide ((readL s.data.toList at_).2.2 = 5) = true) := decide_eq_true (by rw [← hR])
        clear hR hn hki hrun
        subst h1
        go_wp2_with fail
        go_ret
        exact ⟨by rw [hd.out]; rfl, rfl⟩
      · rw [if_neg h1] at hR
        have hlt : k < s.size := by omega
        rw [getD_bytes s k hlt] at hR
        have hyb := UInt8.toNat_lt s[k]
        obtain ⟨y, hy⟩ : ∃ y, s[k].toNat = y := ⟨_, rfl⟩
        rw [hy] at hR hyb
        have hyI : (s[k].toNat : Int) = (y : Int) := by omega
        by_cases h2 : y = 250
        · rw [if_pos h2] at hR
          have hyI2 : (s[k].toNat : Int) = 250 := by omega
          by_cases h3 : i = 8
          · have hk16 : (16 : Int) ≤ (k : Int) - (at_ : Int) := by omega
            rw [if_pos (by omega)] at hR
            have hd : Hid (decide ((readL s.data.toList at_).2.2 = 5) = false) := decide_eq_false (by rw [← hR]; simp)
            clear hR hn hrun hyI
            by_cases h4 : k + 1 = s.size
            · have h4I : ¬ (k : Int) + 1 < (s.size : Int) := by omega
              clear hki
              go_wp2_with fail
              go_ret
              exact ⟨by rw [hd.out]; rfl, rfl⟩
            · have h4I : (k : Int) + 1 < (s.size : Int) := by omega
              have h4n : k + 1 < s.size := by omega
              have hzb := UInt8.toNat_lt s[k + 1]
              clear hki
              by_cases h5 : 249 < s[k + 1].toNat
              · have h5I : (249 : Int) < (s[k + 1].toNat : Int) := by omega
                go_wp2_with fail
                go_ret
                exact ⟨by rw [hd.out]; rfl, rfl⟩
              · have h5I : ¬ (249 : Int) < (s[k + 1].toNat : Int) := by omega
                go_wp2_with fail
                go_ret
                exact ⟨by rw [hd.out]; rfl, rfl⟩
          · have hk16 : ¬ (16 : Int) ≤ (k : Int) - (at_ : Int) := by omega
            rw [if_neg (by omega)] at hR
            by_cases h4 : k + 1 = s.size
            · rw [if_pos h4] at hR
              have h4I : ¬ (k : Int) + 1 < (s.size : Int) := by omega
              have hnext : Hid (Run s at_ (k + 2)) := Lib.hid (.inr ⟨by omega, by rw [← hR]⟩)
              clear hR hn hrun hyI hki
              go_wp2_with fail
              go_round
              case rel => exact ⟨k + 2, by omega, by go_num, trivial, hnext⟩
              case measure => simp [intOf]; omega
            · rw [if_neg h4] at hR
              have h4I : (k : Int) + 1 < (s.size : Int) := by omega
              have h4n : k + 1 < s.size := by omega
              rw [getD_bytes s (k + 1) h4n] at hR
              by_cases h5 : 249 < s[k + 1].toNat
              · rw [if_pos (.inl (by omega))] at hR
                have h5I : (249 : Int) < (s[k + 1].toNat : Int) := by omega
                have hd : Hid (decide ((readL s.data.toList at_).2.2 = 5) = false) := decide_eq_false (by rw [← hR]; simp)
                clear hR hn hrun hyI hki
                go_wp2_with fail
                go_ret
                exact ⟨by rw [hd.out]; rfl, rfl⟩
              · have h5I : ¬ (249 : Int) < (s[k + 1].toNat : Int) := by omega
                obtain ⟨g1, g2, _⟩ := no_over i n s[k + 1].toNat (by omega) hn (by omega)
                rw [if_neg (by omega)] at hR
                have hnext : Hid (Run s at_ (k + 2)) := Lib.hid (.inl ⟨i + 1, n + s[k + 1].toNat * 250 ^ i, by omega, by omega, by omega, g2, by rw [show 9 - (i + 1) = 8 - i by omega, Nat.pow_succ]; exact hR⟩)
                clear hR hn hrun hyI hki g1 g2
                go_wp2_with fail
                go_round
                case rel => exact ⟨k + 2, by omega, by go_num, trivial, hnext⟩
                case measure => simp [intOf]; omega
        · rw [if_neg h2] at hR
          have hyI2 : ¬ (s[k].toNat : Int) = 250 := by omega
          have hd : Hid (decide ((readL s.data.toList at_).2.2 = 5) = false) := by
            refine decide_eq_false ?_
            rw [← hR]
            split <;> simp
          clear hR hn hrun hyI hki
          have hksI : ¬ (s.size : Int) ≤ (k : Int) := by omega
          go_wp2_with fail
          go_ret
          exact ⟨by rw [hd.out]; rfl, rfl⟩
    · have hd : Hid (decide ((readL s.data.toList at_).2.2 = 5) = true) := decide_eq_true h5
      clear h5 hrun
      go_wp2_with fail
      go_ret
      exact ⟨by rw [hd.out]; rfl, rfl⟩
end Go.Proofs.Ytcdklmicbbcknaa

namespace Go.Proofs.Ytcdklmicbbcknaa
open Go Go.RowKit
def rgV (R : Nat × Nat × Nat) (at_ : Nat) : Value := if R.2.2 = 0 then .tuple #[.int .u64 R.1, .int .i64 R.2.1, .int .i64 0] else .tuple #[.int .u64 0, .int .i64 at_, .int .i64 3]
theorem rgV_bad {R : Nat × Nat × Nat} {at_ c : Nat} (h : (0, at_, c) = R) (hc : c ≠ 0) : rgV R at_ = .tuple #[.int .u64 0, .int .i64 at_, .int .i64 3] := by
  rw [← h, rgV, if_neg hc]
set_option maxRecDepth 20000 in
set_option maxHeartbeats 16000000 in
theorem rget_any (s : ByteArray) (at_ : Nat) (w : World) (hat : at_ ≤ s.size) (hs : s.size ≤ 1000000000) :
    Calls Try.prog 73 #[.string s, .int .i64 at_] w fun e w' => e = .returned (rgV (readL s.data.toList at_) at_) ∧ w = w' := by
  have hl : Hid (s.data.toList.length = s.size) := rfl
  go_enter Try.func73, Try.ntmps73
  go_wp2_with fail
  go_loopw [7, 8, 9] (fun v u x wr => ∃ (k i n U : Nat), k ≤ s.size ∧ v = .int .u64 n ∧ u = .int .u64 U ∧ x = .int .i64 k ∧ wr = w ∧ Hid (i ≤ 8 ∧ k = at_ + 2 * i ∧ n < 250 ^ i ∧ U = 250 ^ i ∧ rdL s.data.toList at_ (9 - i) n (250 ^ i) k = readL s.data.toList at_)) (fun _ _ x _ => s.size + 2 - (intOf x).toNat)
  case atStart => exact ⟨at_, 0, 0, 1, hat, rfl, rfl, rfl, rfl, Lib.hid ⟨by omega, by omega, by decide, by decide, rfl⟩⟩
  case round =>
    obtain ⟨k, i, n, U, hk, rfl, rfl, rfl, rfl, HI⟩ := hrel
    obtain ⟨hi, hki, hn, hU, hR⟩ := HI.out
    rw [show 9 - i = 8 - i + 1 by omega, rdL, hl.out] at hR
    by_cases h1 : k = s.size
    · rw [if_pos h1] at hR
      have hd := Lib.hid (rgV_bad hR (by decide))
      clear hR hn hki HI hU
      subst h1
      go_wp2_with fail
      exact bodyPost_ret (v := .tuple #[.int .u64 0, .int .i64 at_, .int .i64 3]) (by simp [results, Try.results73, go_sem]) rfl ⟨by rw [hd.out], rfl⟩
    · rw [if_neg h1] at hR
      have hlt : k < s.size := by omega
      rw [getD_bytes s k hlt] at hR
      have hyb := UInt8.toNat_lt s[k]
      obtain ⟨y, hy⟩ : ∃ y, s[k].toNat = y := ⟨_, rfl⟩
      rw [hy] at hR hyb
      by_cases h2 : y = 250
      · rw [if_pos h2] at hR
        have hyI2 : (s[k].toNat : Int) = 250 := by omega
        by_cases h4 : k + 1 = s.size
        · have hd : Hid (rgV (readL s.data.toList at_) at_ = .tuple #[.int .u64 0, .int .i64 at_, .int .i64 3]) := by
            by_cases h3 : 16 ≤ k - at_
            · rw [if_pos h3] at hR; exact rgV_bad hR (by decide)
            · rw [if_neg h3, if_pos h4] at hR; exact rgV_bad hR (by decide)
          have h4I : (s.size : Int) ≤ (k : Int) + 1 := by omega
          clear hR hn hki HI hU hy
          go_wp2_with fail
          exact bodyPost_ret (v := .tuple #[.int .u64 0, .int .i64 at_, .int .i64 3]) (by simp [results, Try.results73, go_sem]) rfl ⟨by rw [hd.out], rfl⟩
        · have h4I : ¬ (s.size : Int) ≤ (k : Int) + 1 := by omega
          have h4n : k + 1 < s.size := by omega
          by_cases h5 : 249 < s[k + 1].toNat
          · have hd : Hid (rgV (readL s.data.toList at_) at_ = .tuple #[.int .u64 0, .int .i64 at_, .int .i64 3]) := by
              by_cases h3 : 16 ≤ k - at_
              · rw [if_pos h3] at hR; exact rgV_bad hR (by decide)
              · rw [if_neg h3, if_neg h4, getD_bytes s (k + 1) h4n, if_pos (.inl (by omega))] at hR; exact rgV_bad hR (by decide)
            have h5I : (249 : Int) < (s[k + 1].toNat : Int) := by omega
            clear hR hn hki HI hU hy
            go_wp2_with fail
            exact bodyPost_ret (v := .tuple #[.int .u64 0, .int .i64 at_, .int .i64 3]) (by simp [results, Try.results73, go_sem]) rfl ⟨by rw [hd.out], rfl⟩
          · have h5I : ¬ (249 : Int) < (s[k + 1].toNat : Int) := by omega
            by_cases h3 : 16 ≤ k - at_
            · rw [if_pos h3] at hR
              have hd := Lib.hid (rgV_bad hR (by decide))
              have hk16 : (16 : Int) ≤ (k : Int) - (at_ : Int) := by omega
              clear hR hn hki HI hU hy
              go_wp2_with fail
              exact bodyPost_ret (v := .tuple #[.int .u64 0, .int .i64 at_, .int .i64 3]) (by simp [results, Try.results73, go_sem]) rfl ⟨by rw [hd.out], rfl⟩
            · rw [if_neg h3, if_neg h4, getD_bytes s (k + 1) h4n] at hR
              have hk16 : ¬ (16 : Int) ≤ (k : Int) - (at_ : Int) := by omega
              have hi7 : i ≤ 7 := by omega
              obtain ⟨g1, g2, g3⟩ := no_over i n s[k + 1].toNat hi7 hn (by omega)
              rw [if_neg (by omega)] at hR
              have hpow := (pow_u (i + 1) (by omega)).2
              have hpw : (250 : Nat) ^ (i + 1) = 250 * U := by rw [Nat.pow_succ, hU, Nat.mul_comm]
              obtain ⟨z, hz⟩ : ∃ z, s[k + 1].toNat = z := ⟨_, rfl⟩
              rw [hz] at hR g1 g2 g3
              have hzI : (s[k + 1].toNat : Int) = (z : Int) := by omega
              rw [← hU] at g2 g3
              have hp : (0 : Int) ≤ (U : Int) * (z : Int) ∧ (U : Int) * (z : Int) ≤ 18446744073709551615 - (n : Int) := by
                have e : ((z * U : Nat) : Int) = (U : Int) * (z : Int) := by rw [Nat.mul_comm]; exact Int.natCast_mul U z
                omega
              obtain ⟨hp0, hp1⟩ := hp
              have hU2 : (U : Int) * 250 ≤ 18446744073709551615 := by omega
              have hnext : Hid (i + 1 ≤ 8 ∧ k + 2 = at_ + 2 * (i + 1) ∧ n + U * z < 250 ^ (i + 1) ∧ U * 250 = 250 ^ (i + 1) ∧ rdL s.data.toList at_ (9 - (i + 1)) (n + U * z) (250 ^ (i + 1)) (k + 2) = readL s.data.toList at_) := Lib.hid ⟨by omega, by omega, by rw [Nat.mul_comm U z]; exact g2, by omega, by rw [show 9 - (i + 1) = 8 - i by omega, Nat.pow_succ, Nat.mul_comm U z, hU]; exact hR⟩
              have hnI : (n : Int) ≤ 18446744073709551615 := by omega
              clear hR hn hki HI hU hy g1 g2 g3 hpow hpw
              go_wp2_with fail
              go_round
              case rel => exact ⟨_, _, _, _, _, _, ⟨k + 2, by omega, i + 1, n + U * z, by simp, U * 250, by simp, by simp, hnext⟩, rfl, rfl, rfl, rfl, rfl, rfl⟩
              case measure => simp [intOf]; omega
      · rw [if_neg h2] at hR
        have hyI : (s[k].toNat : Int) = (y : Int) := by omega
        have hyI2 : ¬ (s[k].toNat : Int) = 250 := by omega
        have hkI : ¬ (s.size : Int) ≤ (k : Int) := by omega
        by_cases h5 : 250 ≤ y
        · rw [if_pos (.inl h5)] at hR
          have hd := Lib.hid (rgV_bad hR (by decide))
          have h5I : (249 : Int) < (y : Int) := by omega
          have hyI3 : ¬ (y : Int) = 250 := by omega
          clear hR hn hki HI hU hyI2 h2 hy
          go_wp2_with fail
          exact bodyPost_ret (v := .tuple #[.int .u64 0, .int .i64 at_, .int .i64 3]) (by simp [results, Try.results73, go_sem]) rfl ⟨by rw [hd.out], rfl⟩
        · have h5I : ¬ (249 : Int) < (y : Int) := by omega
          have hyI2 : ¬ (y : Int) = 250 := by omega
          by_cases h6 : y = 0 ∧ at_ < k
          · rw [if_pos (.inr (.inl h6))] at hR
            have hd := Lib.hid (rgV_bad hR (by decide))
            obtain ⟨h6, h7⟩ := h6
            have h6I : (s[k].toNat : Int) = 0 := by omega
            have h7I : (at_ : Int) < (k : Int) := by omega
            clear hR hn hki HI hU hyI hyI2 h5I h2 hy
            go_wp2_with fail
            exact bodyPost_ret (v := .tuple #[.int .u64 0, .int .i64 at_, .int .i64 3]) (by simp [results, Try.results73, go_sem]) rfl ⟨by rw [hd.out], rfl⟩
          · have hpw := pow_u i hi
            rw [← hU] at hpw hR
            have hU0 : ¬ U = 0 := by omega
            have hU1 : (1 : Int) ≤ (U : Int) := by omega
            have hUI : (U : Int) ≤ 15258789062500000000 := by omega
            have hnM : n ≤ 18446744073709551615 := by omega
            have hnI : (n : Int) ≤ 18446744073709551615 := by omega
            have hdiv : (18446744073709551615 - (n : Int)) / (U : Int) = (((18446744073709551615 - n) / U : Nat) : Int) := by
              have e : (18446744073709551615 - (n : Int)) = ((18446744073709551615 - n : Nat) : Int) := by omega
              rw [e]; rfl
            by_cases h7 : (18446744073709551615 - n) / U < y
            · rw [if_pos (.inr (.inr h7))] at hR
              have hd := Lib.hid (rgV_bad hR (by decide))
              have h8 : at_ < k := by
                rcases Nat.eq_zero_or_pos i with h0 | h0
                · subst h0
                  have hn0 : n = 0 := by simp at hn; exact hn
                  have hU11 : U = 1 := by simpa using hU
                  rw [hn0, hU11] at h7
                  omega
                · omega
              have h8I : (at_ : Int) < (k : Int) := by omega
              have h6I : ¬ (y : Int) = 0 := by omega
              generalize (18446744073709551615 - n) / U = Q at *
              have h7I : (Q : Int) < (y : Int) := by omega
              clear hR hn hki HI hU h2 hy h6 h7
              go_wp2_with fail
              exact bodyPost_ret (v := .tuple #[.int .u64 0, .int .i64 at_, .int .i64 3]) (by simp [results, Try.results73, go_sem]) rfl ⟨by rw [hd.out], rfl⟩
            · rw [if_neg (by omega)] at hR
              have hp1 := div_ok' (by omega) hnM h7
              have hp : (0 : Int) ≤ (U : Int) * (y : Int) ∧ (U : Int) * (y : Int) ≤ 18446744073709551615 - (n : Int) := by
                have e : ((y * U : Nat) : Int) = (U : Int) * (y : Int) := by rw [Nat.mul_comm]; exact Int.natCast_mul U y
                omega
              obtain ⟨hp0, hp2⟩ := hp
              have hd : Hid (rgV (readL s.data.toList at_) at_ = .tuple #[.int .u64 ((n : Int) + (U : Int) * (y : Int)), .int .i64 ((k : Int) + 1), .int .i64 0]) := by
                rw [← hR, rgV, if_pos rfl]
                simp [Int.mul_comm]
                exact Lib.hid trivial
              generalize (18446744073709551615 - n) / U = Q at *
              have h7I : ¬ (Q : Int) < (y : Int) := by omega
              rcases Nat.lt_or_ge at_ k with h8 | h8
              · have h8I : (at_ : Int) < (k : Int) := by omega
                have h6I : ¬ (y : Int) = 0 := by omega
                clear hR hn hki HI hU h2 hy h6 h7 hp1
                go_wp2_with fail
                exact bodyPost_ret (v := .tuple #[.int .u64 ((n : Int) + (U : Int) * (y : Int)), .int .i64 ((k : Int) + 1), .int .i64 0]) (by simp [results, Try.results73, go_sem]) rfl ⟨by rw [hd.out], rfl⟩
              · have h8I : ¬ (at_ : Int) < (k : Int) := by omega
                clear hR hn hki HI hU h2 hy h6 h7 hp1
                go_wp2_with fail
                exact bodyPost_ret (v := .tuple #[.int .u64 ((n : Int) + (U : Int) * (y : Int)), .int .i64 ((k : Int) + 1), .int .i64 0]) (by simp [results, Try.results73, go_sem]) rfl ⟨by rw [hd.out], rfl⟩
end Go.Proofs.Ytcdklmicbbcknaa
