/-
  seal.Get: what it comes to at any place in the bytes; seal.All as a plain function.
-/
import Derived.Test.YtcdklmicbbcknaaSx5
import Derived.Test.YtcdklmicbbcknaaSx6
import Derived.Test.YtcdklmicbbcknaaSx7
import Derived.Test.YtcdklmicbbcknaaSq
namespace Go.Proofs.Ytcdklmicbbcknaa
open Go Go.RowKit
theorem numL_ok (b : List UInt8) (at_ most n t : Nat) (hat : at_ ≤ b.length) (h : numL b at_ most = (n, t, 0)) : at_ < t ∧ t ≤ b.length ∧ n ≤ most := by
  unfold numL at h
  obtain ⟨n', t', c', hr⟩ : ∃ n' t' c', readL b at_ = (n', t', c') := ⟨_, _, _, rfl⟩
  rw [hr] at h
  simp only [Prod.mk.injEq] at h
  obtain ⟨rfl, rfl, h3⟩ := h
  by_cases hc : c' = 0
  · subst hc
    by_cases hb : most < n'
    · rw [if_pos ⟨rfl, hb⟩] at h3; cases h3
    · obtain ⟨v, h1, h2, h3, _, h5⟩ := rd_once b at_ 9 0 0 n' t' (by omega) (by omega) (by omega) (by simpa [readL] using hr)
      have hp := putL_pos v
      have hl := congrArg List.length h3
      simp only [List.length_append, List.length_drop, Nat.mul_zero, Nat.add_zero] at hl h2
      omega
  · rw [if_neg (fun h => hc h.1)] at h3; exact absurd h3 hc
theorem getP_to (k : K8) (b : List UInt8) (at_ : Nat) (place : Int) (hat : at_ ≤ b.length) (h : (getP k b at_ place).code = 0) : at_ < (getP k b at_ place).to ∧ (getP k b at_ place).to ≤ b.length := by
  unfold getP at h ⊢
  by_cases h1 : at_ = b.length
  · rw [if_pos h1] at h; exact absurd h (by simp [failR])
  · rw [if_neg h1] at h ⊢
    by_cases h2 : (b.getD at_ 0).toNat < 1 ∨ 3 < (b.getD at_ 0).toNat
    · rw [if_pos h2] at h; exact absurd h (by simp [failR])
    · rw [if_neg h2] at h ⊢
      obtain ⟨P, t, cd, hN⟩ : ∃ P t cd, numL b (at_ + 1) 1048576 = (P, t, cd) := ⟨_, _, _, rfl⟩
      rw [hN] at h ⊢
      dsimp only at h ⊢
      by_cases h3 : cd = 0
      · subst h3
        rw [if_neg (by simp)] at h ⊢
        obtain ⟨n, t2, cd2, hN2⟩ : ∃ n t2 cd2, numL b t 12100 = (n, t2, cd2) := ⟨_, _, _, rfl⟩
        rw [hN2] at h ⊢
        dsimp only at h ⊢
        have ha := numL_ok b _ _ _ _ (by omega) hN
        by_cases h4 : cd2 = 0
        · subst h4
          rw [if_neg (by simp)] at h ⊢
          have hb := numL_ok b _ _ _ _ (by omega) hN2
          by_cases h5 : b.length - t2 < n + 8
          · rw [if_pos h5] at h; exact absurd h (by simp [failR])
          · rw [if_neg h5] at h ⊢
            by_cases h6 : tagL k P ((b.drop at_).take (t2 + n - at_)) ≠ (b.drop (t2 + n)).take 8
            · rw [if_pos h6] at h; exact absurd h (by simp [failR])
            · rw [if_neg h6] at h ⊢
              by_cases h7 : (P : Int) ≠ place
              · rw [if_pos h7] at h; exact absurd h (by simp [failR])
              · rw [if_neg h7] at h ⊢
                dsimp only
                omega
        · rw [if_pos h4] at h; exact absurd h h4
      · rw [if_pos h3] at h; exact absurd h h3
def segR (R : GetR) (A : Option Addr) (c : Nat) : Value := .agg #[.int .i64 (R.kind : Int), .int .i64 (R.place : Int), .bool R.last, .slice A R.body.length c]
theorem sget_any (k : K8) (A : Option Addr) (l : List UInt8) (c at_ : Nat) (place : Int) (w : World) (hl : l.length ≤ 100000) (hlc : l.length ≤ c) (hB : Bts w A l) (hat : at_ ≤ l.length) (R : GetR) (hR : Hid (R = getP k l at_ place)) :
    Calls Try.prog 59 #[.agg k.vals.toArray, .slice A l.length c, .int .i64 at_, .int .i64 place] w fun e w' => ∃ A' c', e = .returned (.tuple #[segR R A' c', .int .i64 (R.to : Int), .int .i64 (R.code : Int)]) ∧ Own w' w.heap.size A' c' R.body ∧ Below w.heap.size w w' := by
  have fail : ∀ cd : Nat, R = failR at_ cd → Calls Try.prog 59 #[.agg k.vals.toArray, .slice A l.length c, .int .i64 at_, .int .i64 place] w (fun e w' => e = .returned (.tuple #[zseg, .int .i64 at_, .int .i64 cd]) ∧ Below w.heap.size w w') →
      Calls Try.prog 59 #[.agg k.vals.toArray, .slice A l.length c, .int .i64 at_, .int .i64 place] w fun e w' => ∃ A' c', e = .returned (.tuple #[segR R A' c', .int .i64 (R.to : Int), .int .i64 (R.code : Int)]) ∧ Own w' w.heap.size A' c' R.body ∧ Below w.heap.size w w' := by
    intro cd hr hc
    refine hc.mono ?_
    rintro e w' ⟨rfl, hb⟩
    refine ⟨none, 0, by rw [hr]; rfl, by rw [hr]; exact Own.nil _ _, hb⟩
  have hR' := hR.out
  unfold getP at hR'
  by_cases h1 : at_ = l.length
  · rw [if_pos h1] at hR'
    have h := sget_1 k A l c at_ place w (by omega) hB (.inl h1)
    rw [if_pos h1] at h
    exact fail 5 hR' h
  rw [if_neg h1] at hR'
  by_cases h2 : (l.getD at_ 0).toNat < 1 ∨ 3 < (l.getD at_ 0).toNat
  · rw [if_pos h2] at hR'
    have h := sget_1 k A l c at_ place w (by omega) hB (.inr ⟨by omega, h2⟩)
    rw [if_neg h1] at h
    exact fail 3 hR' h
  rw [if_neg h2] at hR'
  obtain ⟨P, t, cd, hN⟩ : ∃ P t cd, numL l (at_ + 1) 1048576 = (P, t, cd) := ⟨_, _, _, rfl⟩
  rw [hN] at hR'
  dsimp only at hR'
  by_cases h3 : cd = 0
  case neg =>
    rw [if_pos h3] at hR'
    exact fail cd hR' (sget_2 k A l c at_ place w (by omega) hB (by omega) _ rfl (by omega) (by omega) P t cd hN h3)
  subst h3
  rw [if_neg (by simp)] at hR'
  obtain ⟨n, t2, cd2, hN2⟩ : ∃ n t2 cd2, numL l t 12100 = (n, t2, cd2) := ⟨_, _, _, rfl⟩
  rw [hN2] at hR'
  dsimp only at hR'
  have ha := numL_ok l _ _ _ _ (by omega) hN
  by_cases h4 : cd2 = 0
  case neg =>
    rw [if_pos h4] at hR'
    exact fail cd2 hR' (sget_3 k A l c at_ place w (by omega) hB (by omega) _ rfl (by omega) (by omega) P t hN ha.2.1 n t2 cd2 hN2 h4)
  subst h4
  rw [if_neg (by simp)] at hR'
  have hb := numL_ok l _ _ _ _ ha.2.1 hN2
  by_cases h5 : l.length - t2 < n + 8
  · rw [if_pos h5] at hR'
    exact fail 5 hR' (sget_4 k A l c at_ place w (by omega) hB (by omega) _ rfl (by omega) (by omega) P t hN ha.2.1 n t2 hN2 hb.2.1 h5)
  rw [if_neg h5] at hR'
  obtain ⟨b, o, rfl, _, _⟩ := hB (by omega)
  by_cases h6 : tagL k P ((l.drop at_).take (t2 + n - at_)) ≠ (l.drop (t2 + n)).take 8
  · rw [if_pos h6] at hR'
    exact fail 4 hR' (sget_5 k b o l c at_ place w hl hlc hB (by omega) _ rfl (by omega) (by omega) P t hN ha.2.1 (by omega) n t2 hN2 hb.2.1 hb.1 (by omega) (decide_eq_false h6))
  rw [if_neg h6] at hR'
  have h6' := Classical.not_not.1 h6
  by_cases h7 : (P : Int) ≠ place
  · rw [if_pos h7] at hR'
    exact fail 2 hR' (sget_6 k b o l c at_ place w hl hlc hB (by omega) _ rfl (by omega) (by omega) P t hN ha.2.1 (by omega) n t2 hN2 hb.2.1 hb.1 (by omega) (decide_eq_true h6') (beq_eq_false_iff_ne.2 h7))
  rw [if_neg h7] at hR'
  obtain rfl := Classical.not_not.1 h7
  refine (sget_7 k b o l c at_ w hl hlc hB (by omega) _ rfl (by omega) (by omega) P t hN ha.2.1 (by omega) n t2 hN2 hb.2.1 hb.1 (by omega) (decide_eq_true h6')).mono ?_
  rintro e w' ⟨A', c', X, hX, rfl, ho, hbw⟩
  obtain rfl := hX.out
  refine ⟨A', c', ?_, ?_, hbw⟩
  · rw [hR']
    have hq : (((l.getD at_ 0).toNat : Int) == 3) = decide ((l.getD at_ 0).toNat = 3) := by
      by_cases hy : (l.getD at_ 0).toNat = 3
      · rw [hy]; rfl
      · rw [decide_eq_false hy]; exact beq_eq_false_iff_ne.2 (by omega)
    simp only [segR]
    rw [hq]
    rfl
  · rw [hR']; exact ho
/-! ### seal.All -/
def allP (k : K8) (b : List UInt8) : Nat → List GetR → Nat → List GetR × Nat × Nat
  | 0, acc, at_ => (acc, at_, 0)
  | f + 1, acc, at_ =>
    if (getP k b at_ acc.length).code ≠ 0 then (acc, at_, (getP k b at_ acc.length).code)
    else if (getP k b at_ acc.length).last then (acc ++ [getP k b at_ acc.length], (getP k b at_ acc.length).to, 0)
    else allP k b f (acc ++ [getP k b at_ acc.length]) (getP k b at_ acc.length).to
/-- a value's parts, and what was read -/
def SegV.key (s : SegV) : Int × Int × Bool × List UInt8 := (s.kind, s.place, s.last, s.body)
def GetR.key (R : GetR) : Int × Int × Bool × List UInt8 := ((R.kind : Int), (R.place : Int), R.last, R.body)
end Go.Proofs.Ytcdklmicbbcknaa
