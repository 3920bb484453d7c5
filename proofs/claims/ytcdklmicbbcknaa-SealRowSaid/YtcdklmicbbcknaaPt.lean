/-
  One byte turned turns the keyed sum and the tag: 4294967291 is a prime, so a step of the sum is one to one. No program in sight.
-/
import Derived.Test.YtcdklmicbbcknaaPb
namespace Go.Proofs.Ytcdklmicbbcknaa
/-- no number from d to d + 2^k - 1 divides the prime -/
def noDiv : Nat → Nat → Bool
  | 0, d => decide (4294967291 % d ≠ 0)
  | k + 1, d => noDiv k d && noDiv k (d + 2 ^ k)
theorem noDiv_spec : ∀ (k d : Nat), noDiv k d = true → ∀ e, d ≤ e → e < d + 2 ^ k → 4294967291 % e ≠ 0
  | 0, d, h, e, h1, h2 => by
    obtain rfl : e = d := by simp at h2; omega
    simpa [noDiv] using h
  | k + 1, d, h, e, h1, h2 => by
    rw [noDiv, Bool.and_eq_true] at h
    by_cases he : e < d + 2 ^ k
    · exact noDiv_spec k d h.1 e h1 he
    · exact noDiv_spec k (d + 2 ^ k) h.2 e (by omega) (by rw [Nat.pow_succ] at h2; omega)
theorem noDiv_all : noDiv 16 2 = true := by decide +kernel
theorem prime_gcd (x : Nat) (h1 : 1 ≤ x) (h2 : x ≤ 4294967290) : Nat.gcd 4294967291 x = 1 := by
  have hd := Nat.gcd_dvd_left 4294967291 x
  have hx := Nat.gcd_dvd_right 4294967291 x
  have hp := Nat.gcd_pos_of_pos_right 4294967291 (show 0 < x by omega)
  generalize Nat.gcd 4294967291 x = g at *
  by_cases h : g = 1
  · exact h
  · exfalso
    have hg2 : 2 ≤ g := by omega
    have hgx := Nat.le_of_dvd (by omega) hx
    obtain ⟨q, hq⟩ := hd
    have hq2 : 2 ≤ q := by
      rcases q with _ | _ | q
      · simp at hq
      · simp at hq; omega
      · omega
    by_cases hs : g ≤ 65537
    · exact noDiv_spec 16 2 noDiv_all g hg2 (by omega) (by rw [hq, Nat.mul_mod_right])
    · by_cases ht : q ≤ 65537
      · exact noDiv_spec 16 2 noDiv_all q hq2 (by omega) (by rw [hq, Nat.mul_mod_left])
      · have : 65537 * 65537 ≤ g * q := Nat.mul_le_mul (by omega) (by omega)
        omega
theorem mul_cancel_le (a b x : Nat) (h1 : 1 ≤ x) (h2 : x ≤ 4294967290) (hab : b ≤ a) (ha : a < 4294967291) (h : (a * x) % 4294967291 = (b * x) % 4294967291) : a = b := by
  have hle : b * x ≤ a * x := Nat.mul_le_mul_right _ hab
  have hs : (a - b) * x = a * x - b * x := Nat.sub_mul a b x
  have hd : 4294967291 ∣ (a - b) * x := by
    rw [hs]
    exact Nat.dvd_of_mod_eq_zero (Nat.sub_mod_eq_zero_of_mod_eq h)
  have hc : Nat.Coprime 4294967291 x := prime_gcd x h1 h2
  have h3 := hc.dvd_of_dvd_mul_right hd
  rcases Nat.eq_zero_or_pos (a - b) with h0 | h0
  · omega
  · have := Nat.le_of_dvd h0 h3; omega
theorem mul_cancel (a b x : Nat) (h1 : 1 ≤ x) (h2 : x ≤ 4294967290) (ha : a < 4294967291) (hb : b < 4294967291) (h : (a * x) % 4294967291 = (b * x) % 4294967291) : a = b := by
  rcases Nat.le_total b a with hab | hab
  · exact mul_cancel_le a b x h1 h2 hab ha h
  · exact (mul_cancel_le b a x h1 h2 hab hb h.symm).symm
theorem sStep_n (x n n' b : Nat) (h1 : 1 ≤ x) (h2 : x ≤ 4294967290) (hn : n < 4294967291) (hn' : n' < 4294967291) (h : sStep x n b = sStep x n' b) : n = n' := by
  refine mul_cancel n n' x h1 h2 hn hn' ?_
  unfold sStep at h
  generalize n * x = p at *
  generalize n' * x = q at *
  omega
theorem sStep_b (x n b b' : Nat) (hb : b < 256) (hb' : b' < 256) (h : sStep x n b = sStep x n b') : b = b' := by
  unfold sStep at h
  generalize n * x = p at *
  omega
theorem sFold_n (x : Nat) (h1 : 1 ≤ x) (h2 : x ≤ 4294967290) : ∀ (l : List UInt8) (n n' : Nat), n < 4294967291 → n' < 4294967291 → sFold x n l = sFold x n' l → n = n'
  | [], _, _, _, _, h => h
  | b :: l, n, n', hn, hn', h => sStep_n x n n' b.toNat h1 h2 hn hn' (sFold_n x h1 h2 l _ _ (sStep_hi _ _ _) (sStep_hi _ _ _) h)
theorem set_split (l : List UInt8) (i : Nat) (d : UInt8) (hi : i < l.length) : l.set i d = l.take i ++ d :: l.drop (i + 1) := List.set_eq_take_append_cons_drop .. |>.trans (if_pos hi)
theorem self_split (l : List UInt8) (i : Nat) (hi : i < l.length) : l = l.take i ++ l.getD i 0 :: l.drop (i + 1) := by
  rw [List.getD_eq_getElem?_getD, List.getElem?_eq_getElem hi]
  exact (List.take_append_drop i l).symm.trans (by rw [List.drop_eq_getElem_cons hi]; rfl)
theorem sumN_turned (r s : Nat) (l : List UInt8) (i : Nat) (d : UInt8) (hi : i < l.length) (h : sumN r s (l.set i d) = sumN r s l) : d = l.getD i 0 := by
  have h1 := sumX_lo r
  have h2 := sumX_hi r
  unfold sumN at h
  rw [List.length_set] at h
  generalize sumX r = x at *
  have hs : s % 4294967291 < 4294967291 := Nat.mod_lt _ (by omega)
  generalize s % 4294967291 = n at *
  have f1 := sFold_hi x (l.set i d) n hs
  have f2 := sFold_hi x l n hs
  have he : sFold x n (l.set i d) = sFold x n l := by
    refine mul_cancel _ _ x h1 h2 f1 f2 ?_
    generalize sFold x n (l.set i d) * x = p at *
    generalize sFold x n l * x = q at *
    omega
  rw [set_split l i d hi] at he
  have hl := self_split l i hi
  generalize l.getD i 0 = y at *
  generalize l.take i = a at *
  generalize l.drop (i + 1) = b at *
  subst hl
  rw [sFold_append, sFold_append] at he
  have hg := sFold_n x h1 h2 b _ _ (sStep_hi _ _ _) (sStep_hi _ _ _) he
  exact UInt8.toNat_inj.1 (sStep_b x _ _ _ (UInt8.toNat_lt _) (UInt8.toNat_lt _) hg)
theorem sumW_turned (r s : BitVec 32) (l : List UInt8) (i : Nat) (d : UInt8) (hi : i < l.length) (h : sumW r s (l.set i d) = sumW r s l) : d = l.getD i 0 := by
  refine sumN_turned r.toNat s.toNat l i d hi ?_
  have h1 := sumW_eq r s (l.set i d)
  have h2 := sumW_eq r s l
  rw [h] at h1
  omega
theorem le4_inj (x y : BitVec 32) (h : le4 x = le4 y) : x = y := by
  apply BitVec.eq_of_toNat_eq
  have hx := x.isLt
  have hy := y.isLt
  unfold le4 at h
  generalize x.toNat = a at *
  generalize y.toNat = b at *
  simp only [List.cons.injEq, and_true, ← UInt8.toNat_inj, UInt8.toNat_ofNat'] at h
  omega
theorem tagL_turned (k : K8) (p : Int) (l : List UInt8) (i : Nat) (d : UInt8) (hi : i < l.length) (h : tagL k p (l.set i d) = tagL k p l) : d = l.getD i 0 := by
  unfold tagL tagM at h
  have h1 := (List.append_inj h rfl).1
  exact sumW_turned _ _ l i d hi (le4_inj _ _ h1)
theorem set_same (l : List UInt8) (i : Nat) (hi : i < l.length) : l.set i (l.getD i 0) = l := by
  rw [set_split l i _ hi]; exact (self_split l i hi).symm
end Go.Proofs.Ytcdklmicbbcknaa
