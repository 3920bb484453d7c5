/-
  Numbers as bytes: what is put is what is read. No program in sight.
-/
import Derived.Test.YtcdklmicbbcknaaPb
namespace Go.Proofs.Ytcdklmicbbcknaa
/-- a number's bytes -/
def putL (n : Nat) : List UInt8 := if n < 250 then [UInt8.ofNat n] else 250 :: UInt8.ofNat (n % 250) :: putL (n / 250)
termination_by n
decreasing_by omega
theorem putL_lt {n : Nat} (h : n < 250) : putL n = [UInt8.ofNat n] := by rw [putL, if_pos h]
theorem putL_ge {n : Nat} (h : 250 ≤ n) : putL n = 250 :: UInt8.ofNat (n % 250) :: putL (n / 250) := by rw [putL, if_neg (by omega)]
/-- reading on, from place k: what is read so far, the next digit's weight -/
def rdL (b : List UInt8) (at_ : Nat) : Nat → Nat → Nat → Nat → Nat × Nat × Nat
  | 0, _, _, _ => (0, at_, 5)
  | f + 1, n, u, k =>
    if k = b.length then (0, at_, 5)
    else if (b.getD k 0).toNat = 250 then
      if 16 ≤ k - at_ then (0, at_, 3)
      else if k + 1 = b.length then (0, at_, 5)
      else if 250 ≤ (b.getD (k + 1) 0).toNat ∨ (18446744073709551615 - n) / u < (b.getD (k + 1) 0).toNat then (0, at_, 3)
      else rdL b at_ f (n + (b.getD (k + 1) 0).toNat * u) (u * 250) (k + 2)
    else if 250 ≤ (b.getD k 0).toNat ∨ ((b.getD k 0).toNat = 0 ∧ at_ < k) ∨ (18446744073709551615 - n) / u < (b.getD k 0).toNat then (0, at_, 3)
    else (n + (b.getD k 0).toNat * u, k + 1, 0)
def readL (b : List UInt8) (at_ : Nat) : Nat × Nat × Nat := rdL b at_ 9 0 1 at_
theorem putL_pos (n : Nat) : 1 ≤ (putL n).length := by
  by_cases h : n < 250
  · rw [putL_lt h]; simp
  · rw [putL_ge (by omega)]; simp
theorem ofNat_small {n : Nat} (h : n < 256) : (UInt8.ofNat n).toNat = n := by
  rw [UInt8.toNat_ofNat']; omega
theorem getD_drop (b : List UInt8) (k : Nat) (x : UInt8) (l : List UInt8) (h : b.drop k = x :: l) : b.getD k 0 = x ∧ k < b.length ∧ b.drop (k + 1) = l := by
  have hk : k < b.length := by
    rcases Nat.lt_or_ge k b.length with h1 | h1
    · exact h1
    · rw [List.drop_eq_nil_of_le h1] at h; cases h
  rw [List.drop_eq_getElem_cons hk] at h
  injection h with h1 h2
  refine ⟨?_, hk, h2⟩
  rw [List.getD_eq_getElem?_getD, List.getElem?_eq_getElem hk]
  exact h1
theorem pow_u (i : Nat) (h : i ≤ 8) : 1 ≤ 250 ^ i ∧ 250 ^ i ≤ 15258789062500000000 := by
  constructor
  · have := Nat.pow_le_pow_right (n := 250) (by omega) (Nat.zero_le i)
    simpa using this
  · calc 250 ^ i ≤ 250 ^ 8 := Nat.pow_le_pow_right (by omega) h
      _ ≤ _ := by decide
theorem div_ok {M n v u : Nat} (hu : 1 ≤ u) (h : n + v * u ≤ M) : ¬ (M - n) / u < v := by
  have : v ≤ (M - n) / u := (Nat.le_div_iff_mul_le hu).2 (by omega)
  omega
theorem div_ok' {M n v u : Nat} (hu : 1 ≤ u) (hn : n ≤ M) (h : ¬ (M - n) / u < v) : n + v * u ≤ M := by
  have : v * u ≤ M - n := (Nat.le_div_iff_mul_le hu).1 (by omega)
  omega
theorem rd_put (b : List UInt8) (at_ : Nat) (rest : List UInt8) : ∀ (v f n i : Nat), i ≤ 8 → 9 ≤ f + i → b.drop (at_ + 2 * i) = putL v ++ rest → n + v * 250 ^ i ≤ 18446744073709551615 → (0 < i → 0 < v) →
    rdL b at_ f n (250 ^ i) (at_ + 2 * i) = (n + v * 250 ^ i, at_ + 2 * i + (putL v).length, 0) := by
  intro v
  induction v using Nat.strongRecOn with
  | ind v ih =>
    intro f n i hi hf hd hn hv
    obtain ⟨hu1, hu2⟩ := pow_u i hi
    obtain ⟨f, rfl⟩ : ∃ f', f = f' + 1 := ⟨f - 1, by omega⟩
    by_cases h : v < 250
    · rw [putL_lt h] at hd ⊢
      obtain ⟨h1, h2, _⟩ := getD_drop b _ _ _ hd
      have ho := div_ok hu1 hn
      rw [rdL, h1, ofNat_small (by omega), if_neg (by omega), if_neg (by omega), if_neg (by intro hh; rcases hh with hh | hh | hh <;> omega)]
      rfl
    · rw [putL_ge (by omega)] at hd ⊢
      obtain ⟨h1, h2, h3⟩ := getD_drop b _ _ _ hd
      obtain ⟨h4, h5, h6⟩ := getD_drop b _ _ _ h3
      have hi8 : i < 8 := by
        rcases Nat.lt_or_ge i 8 with h8 | h8
        · exact h8
        · obtain rfl : i = 8 := by omega
          have : 250 * 250 ^ 8 ≤ v * 250 ^ 8 := Nat.mul_le_mul_right _ (by omega)
          have e : (250 * 250 ^ 8 : Nat) = 3814697265625000000000 := by decide
          omega
      have hsplit : v * 250 ^ i = (v % 250) * 250 ^ i + (v / 250) * 250 ^ (i + 1) := by
        rw [Nat.pow_succ, Nat.mul_comm (250 ^ i) 250, ← Nat.mul_assoc, ← Nat.add_mul]
        congr 1
        omega
      have hm : v % 250 < 250 := Nat.mod_lt _ (by omega)
      have ho : ¬ (18446744073709551615 - n) / 250 ^ i < v % 250 := div_ok hu1 (by omega)
      have hr := ih (v / 250) (by omega) f (n + (v % 250) * 250 ^ i) (i + 1) (by omega) (by omega) (by rw [show at_ + 2 * (i + 1) = at_ + 2 * i + 1 + 1 by omega]; exact h6) (by omega) (fun _ => by omega)
      rw [rdL, h1, if_neg (by omega), if_pos (by decide), if_neg (by omega), if_neg (by omega), h4, ofNat_small (by omega), if_neg (by omega), show at_ + 2 * i + 2 = at_ + 2 * (i + 1) by omega, ← Nat.pow_succ, hr]
      simp only [List.length_cons, Prod.mk.injEq, and_true]
      omega
theorem rd_cut (b : List UInt8) (at_ : Nat) : ∀ (v f n i m : Nat), i ≤ 8 → 9 ≤ f + i → b.drop (at_ + 2 * i) = (putL v).take m → at_ + 2 * i ≤ b.length → m < (putL v).length → n + v * 250 ^ i ≤ 18446744073709551615 →
    rdL b at_ f n (250 ^ i) (at_ + 2 * i) = (0, at_, 5) := by
  intro v
  induction v using Nat.strongRecOn with
  | ind v ih =>
    intro f n i m hi hf hd hle hm hn
    obtain ⟨hu1, hu2⟩ := pow_u i hi
    obtain ⟨f, rfl⟩ : ∃ f', f = f' + 1 := ⟨f - 1, by omega⟩
    have hlen := congrArg List.length hd
    rw [List.length_drop, List.length_take] at hlen
    by_cases h : v < 250
    · rw [putL_lt h] at hlen hm
      simp at hlen hm
      rw [rdL, if_pos (by omega)]
    · rcases m with _ | m
      · simp at hlen
        rw [rdL, if_pos (by omega)]
      · rw [putL_ge (by omega)] at hd hm
        rw [List.take_succ_cons] at hd
        obtain ⟨h1, h2, h3⟩ := getD_drop b _ _ _ hd
        have hi8 : i < 8 := by
          rcases Nat.lt_or_ge i 8 with h8 | h8
          · exact h8
          · obtain rfl : i = 8 := by omega
            have : 250 * 250 ^ 8 ≤ v * 250 ^ 8 := Nat.mul_le_mul_right _ (by omega)
            have e : (250 * 250 ^ 8 : Nat) = 3814697265625000000000 := by decide
            omega
        rcases m with _ | m
        · have h4 := congrArg List.length h3
          rw [List.length_drop] at h4
          simp at h4
          rw [rdL, h1, if_neg (by omega), if_pos (by decide), if_neg (by omega), if_pos (by omega)]
        · rw [List.take_succ_cons] at h3
          obtain ⟨h4, h5, h6⟩ := getD_drop b _ _ _ h3
          have hsplit : v * 250 ^ i = (v % 250) * 250 ^ i + (v / 250) * 250 ^ (i + 1) := by
            rw [Nat.pow_succ, Nat.mul_comm (250 ^ i) 250, ← Nat.mul_assoc, ← Nat.add_mul]
            congr 1
            omega
          have hmm : v % 250 < 250 := Nat.mod_lt _ (by omega)
          have ho : ¬ (18446744073709551615 - n) / 250 ^ i < v % 250 := div_ok hu1 (by omega)
          by_cases hlast : at_ + 2 * i + 1 + 1 = b.length ∧ False
          · exact hlast.2.elim
          · have hr := ih (v / 250) (by omega) f (n + (v % 250) * 250 ^ i) (i + 1) m (by omega) (by omega) (by rw [show at_ + 2 * (i + 1) = at_ + 2 * i + 1 + 1 by omega]; exact h6) (by omega) (by simp at hm; omega) (by omega)
            rw [rdL, h1, if_neg (by omega), if_pos (by decide), if_neg (by omega), if_neg (by omega), h4, ofNat_small (by omega), if_neg (by omega), show at_ + 2 * i + 2 = at_ + 2 * (i + 1) by omega, ← Nat.pow_succ, hr]
theorem read_put (b : List UInt8) (at_ v : Nat) (rest : List UInt8) (hd : b.drop at_ = putL v ++ rest) (hv : v ≤ 18446744073709551615) : readL b at_ = (v, at_ + (putL v).length, 0) := by
  have h := rd_put b at_ rest v 9 0 0 (by omega) (by omega) hd (by simpa using hv) (by omega)
  simpa [readL] using h
theorem read_cut (b : List UInt8) (at_ v m : Nat) (hd : b.drop at_ = (putL v).take m) (hle : at_ ≤ b.length) (hm : m < (putL v).length) (hv : v ≤ 18446744073709551615) : readL b at_ = (0, at_, 5) := by
  have h := rd_cut b at_ v 9 0 0 m (by omega) (by omega) hd hle hm (by simpa using hv)
  simpa [readL] using h
theorem rd_once (b : List UInt8) (at_ : Nat) : ∀ (f n i r t : Nat), i ≤ 8 → n ≤ 18446744073709551615 → at_ + 2 * i ≤ b.length → rdL b at_ f n (250 ^ i) (at_ + 2 * i) = (r, t, 0) →
    ∃ v, r = n + v * 250 ^ i ∧ t = at_ + 2 * i + (putL v).length ∧ b.drop (at_ + 2 * i) = putL v ++ b.drop t ∧ (0 < i → 0 < v) ∧ r ≤ 18446744073709551615 := by
  intro f
  induction f with
  | zero => intro n i r t _ _ _ h; rw [rdL] at h; simp at h
  | succ f ih =>
    intro n i r t hi hn hle h
    obtain ⟨hu1, hu2⟩ := pow_u i hi
    rw [rdL] at h
    split at h
    · simp at h
    · rename_i hk
      split at h
      · rename_i hd
        split at h
        · simp at h
        · rename_i h16
          split at h
          · simp at h
          · rename_i hk1
            split at h
            · simp at h
            · rename_i hbad
              have hb1 : ¬ 250 ≤ (b.getD (at_ + 2 * i + 1) 0).toNat := fun x => hbad (Or.inl x)
              have hb2 : ¬ (18446744073709551615 - n) / 250 ^ i < (b.getD (at_ + 2 * i + 1) 0).toNat := fun x => hbad (Or.inr x)
              have hok := div_ok' hu1 hn hb2
              rw [← Nat.pow_succ, show at_ + 2 * i + 2 = at_ + 2 * (i + 1) by omega] at h
              have hlt0 : at_ + 2 * i < b.length := by
                rcases Nat.lt_or_ge (at_ + 2 * i) b.length with hx | hx
                · exact hx
                · rw [List.getD_eq_getElem?_getD, List.getElem?_eq_none hx] at hd; simp at hd
              obtain ⟨v, h1, h2, h3, h4, h5⟩ := ih _ (i + 1) r t (by omega) hok (by omega) h
              have hv := h4 (by omega)
              have hlt : at_ + 2 * i < b.length := by
                rcases Nat.lt_or_ge (at_ + 2 * i) b.length with hx | hx
                · exact hx
                · rw [List.getD_eq_getElem?_getD, List.getElem?_eq_none hx] at hd; simp at hd
              have hlt1 : at_ + 2 * i + 1 < b.length := by omega
              generalize hy : b.getD (at_ + 2 * i + 1) 0 = y at *
              have hp : putL (y.toNat + 250 * v) = 250 :: y :: putL v := by
                rw [putL_ge (by omega), show (y.toNat + 250 * v) % 250 = y.toNat by omega, show (y.toNat + 250 * v) / 250 = v by omega]
                rw [show UInt8.ofNat y.toNat = y from UInt8.toNat_inj.1 (ofNat_small (UInt8.toNat_lt y))]
              refine ⟨y.toNat + 250 * v, ?_, ?_, ?_, fun _ => by omega, h5⟩
              · rw [h1, Nat.add_mul, Nat.pow_succ, Nat.mul_comm (250 ^ i) 250, ← Nat.mul_assoc, Nat.mul_comm v 250]; omega
              · rw [hp, h2]; simp only [List.length_cons]; omega
              · rw [hp, List.drop_eq_getElem_cons hlt, List.drop_eq_getElem_cons hlt1]
                rw [List.getD_eq_getElem?_getD, List.getElem?_eq_getElem hlt] at hd
                rw [List.getD_eq_getElem?_getD, List.getElem?_eq_getElem hlt1] at hy
                simp only [Option.getD_some] at hd hy
                rw [hy, show at_ + 2 * i + 1 + 1 = at_ + 2 * (i + 1) by omega, h3]
                rw [show b[at_ + 2 * i] = (250 : UInt8) from UInt8.toNat_inj.1 (by rw [hd]; rfl)]
                rfl
      · rename_i hd
        split at h
        · simp at h
        · rename_i hbad
          have hb1 : ¬ 250 ≤ (b.getD (at_ + 2 * i) 0).toNat := fun x => hbad (Or.inl x)
          have hb2 : ¬ ((b.getD (at_ + 2 * i) 0).toNat = 0 ∧ at_ < at_ + 2 * i) := fun x => hbad (Or.inr (Or.inl x))
          have hb3 : ¬ (18446744073709551615 - n) / 250 ^ i < (b.getD (at_ + 2 * i) 0).toNat := fun x => hbad (Or.inr (Or.inr x))
          have hok := div_ok' hu1 hn hb3
          simp only [Prod.mk.injEq, and_true] at h
          have hlt : at_ + 2 * i < b.length ∨ b.length < at_ + 2 * i := by omega
          obtain ⟨h1, h2⟩ := h
          rcases hlt with hlt | hlt
          · generalize hy : b.getD (at_ + 2 * i) 0 = y at *
            have hp : putL y.toNat = [y] := by
              rw [putL_lt (by omega), show UInt8.ofNat y.toNat = y from UInt8.toNat_inj.1 (ofNat_small (UInt8.toNat_lt y))]
            refine ⟨y.toNat, h1.symm, ?_, ?_, fun hpos => by omega, by omega⟩
            · rw [hp, ← h2]; rfl
            · rw [hp, List.drop_eq_getElem_cons hlt, ← h2]
              rw [List.getD_eq_getElem?_getD, List.getElem?_eq_getElem hlt] at hy
              simp only [Option.getD_some] at hy
              rw [hy]; rfl
          · omega
theorem read_once (b : List UInt8) (r t : Nat) (h : readL b 0 = (r, t, 0)) : 1 ≤ t ∧ t ≤ b.length ∧ putL r = b.take t ∧ r ≤ 18446744073709551615 := by
  obtain ⟨v, h1, h2, h3, _, h5⟩ := rd_once b 0 9 0 0 r t (by omega) (by omega) (by omega) h
  simp at h1 h2 h3
  subst h1
  have hl := congrArg List.length h3
  rw [List.length_append, List.length_drop] at hl
  have hp := putL_pos r
  have ht : t ≤ b.length := by
    rcases Nat.lt_or_ge b.length t with hx | hx
    · rw [Nat.sub_eq_zero_of_le (Nat.le_of_lt hx)] at hl; omega
    · exact hx
  refine ⟨by omega, ht, ?_, h5⟩
  have := congrArg (List.take t) h3
  rw [this, List.take_append_of_le_length (by omega), h2, List.take_length]
theorem putL_len (n : Nat) : ∀ d, n < 250 ^ (d + 1) → (putL n).length ≤ 2 * d + 1 := by
  induction n using Nat.strongRecOn with
  | ind n ih =>
    intro d h
    by_cases hn : n < 250
    · rw [putL_lt hn]; simp
    · rcases d with _ | d
      · simp at h; omega
      · rw [putL_ge (by omega)]
        have h2 : n / 250 < 250 ^ (d + 1) := by
          rw [Nat.pow_succ] at h
          exact Nat.div_lt_of_lt_mul (by omega)
        have := ih (n / 250) (by omega) d h2
        simp only [List.length_cons]; omega
theorem putL_18 (n : Nat) (h : n ≤ 18446744073709551615) : (putL n).length ≤ 18 := by
  have := putL_len n 8 (Nat.lt_of_le_of_lt h (by decide))
  omega
theorem putL_mono (y : Nat) : ∀ x, x ≤ y → (putL x).length ≤ (putL y).length := by
  induction y using Nat.strongRecOn with
  | ind y ih =>
    intro x h
    by_cases hx : x < 250
    · rw [putL_lt hx]; have := putL_pos y; simpa using this
    · rw [putL_ge (by omega), putL_ge (n := y) (by omega)]
      have := ih (y / 250) (by omega) (x / 250) (Nat.div_le_div_right h)
      simp only [List.length_cons]; omega
end Go.Proofs.Ytcdklmicbbcknaa
