/-
  steamerlaw14.LaneQuarters answers true and leaves old memory as it was: by a walk of its text.
-/
import Derived.Test.YtcdklmicbbcknaaTq
import Derived.Outline
namespace Go.Proofs.Ytcdklmicbbcknaa
open Go Go.RowKit
theorem W_iff (x y : BitVec 32) : (W x = W y) ↔ x = y := ⟨W_inj, fun h => by rw [h]⟩
theorem W_zero (x : BitVec 32) : (W x = 0) ↔ x = 0#32 := W_iff x 0
theorem W_beq (x y : BitVec 32) : (W x == W y) = decide (x = y) := decide_eq_decide.2 (W_iff x y)
theorem W_beq0 (x : BitVec 32) : (W x == 0) = decide (x = 0#32) := W_beq x 0
theorem qtr_xor (a b c d : BitVec 32) (a' b' c' d' : BitVec 32) : ((qtr a b c d).a = (qtr a' b' c' d').a ∧ (qtr a b c d).b = (qtr a' b' c' d').b ∧ (qtr a b c d).c = (qtr a' b' c' d').c ∧ (qtr a b c d).d = (qtr a' b' c' d').d) ↔ (a = a' ∧ b = b' ∧ c = c' ∧ d = d') := by
  constructor
  · rintro ⟨h1, h2, h3, h4⟩; exact qtr_inj (Q4.ext h1 h2 h3 h4)
  · rintro ⟨rfl, rfl, rfl, rfl⟩; exact ⟨rfl, rfl, rfl, rfl⟩
theorem xor_fix (x y : BitVec 32) : x = x ^^^ y ↔ y = 0 := by
  constructor
  · intro h
    have : x ^^^ x = x ^^^ (x ^^^ y) := by rw [← h]
    rw [← BitVec.xor_assoc] at this
    simpa using this.symm
  · rintro rfl; simp
theorem ret_bool2 {b : Bool} (h : b = true) : Ending.returned (.bool b) = .returned (.bool true) := by rw [h]
attribute [local go_sem] bits_xor_W W_iff
set_option maxRecDepth 20000 in
set_option maxHeartbeats 8000000 in
theorem walk_LaneQuarters (a b c d : BitVec 32) (i : Int) (f : BitVec 32) (w : World) (_hi : -9223372036854775808 ≤ i ∧ i < 9223372036854775808) :
    Calls Try.prog 15 #[.int .u32 (W a), .int .u32 (W b), .int .u32 (W c), .int .u32 (W d), .int .i64 i, .int .u32 (W f)] w fun e w' => e = .returned (.bool true) ∧ Below w.heap.size w w' := by
  have h4 : (IntKind.u64.wrap i).tmod 4 = 0 ∨ (IntKind.u64.wrap i).tmod 4 = 1 ∨ (IntKind.u64.wrap i).tmod 4 = 2 ∨ (IntKind.u64.wrap i).tmod 4 = 3 := by
    have h0 : 0 ≤ IntKind.u64.wrap i := by simp [IntKind.wrap, IntKind.bits, IntKind.signed]; omega
    rw [Int.tmod_eq_emod_of_nonneg h0]; omega
  rcases h4 with h4 | h4 | h4 | h4
  · have HX : Hid (((qtr a b c d).a = (qtr (a ^^^ f) b c d).a ∧ (qtr a b c d).b = (qtr (a ^^^ f) b c d).b ∧ (qtr a b c d).c = (qtr (a ^^^ f) b c d).c ∧ (qtr a b c d).d = (qtr (a ^^^ f) b c d).d) ↔ f = 0) := Lib.hid (by rw [qtr_xor, xor_fix]; simp)
    go_enter Try.func15, Try.ntmps15
    go_wp2_with fail
    refine (quarter_any _ _ _ _ _).mono ?_
    rintro e w1 ⟨rfl, rfl⟩
    go_wp2_with fail
    refine (quarter_any _ _ _ _ _).mono ?_
    rintro e w1 ⟨rfl, rfl⟩
    generalize qtr a b c d = P at *
    generalize qtr (a ^^^ f) b c d = R at *
    obtain ⟨p0, p1, p2, p3⟩ := P
    obtain ⟨q0, q1, q2, q3⟩ := R
    replace HX : Hid ((p0 = q0 ∧ p1 = q1 ∧ p2 = q2 ∧ p3 = q3) ↔ f = 0) := HX
    dsimp only
    go_wp2_with fail
    refine (told14 _).mono ?_
    rintro e w2 ⟨rfl, hb2⟩
    have hb3 : Below w.heap.size w w2 := ((Below.refl _ _).alloc (Nat.le_refl _) _).trans (hb2.mono (by simp))
    clear h4 hb2
    go_wp2_with fail
    all_goals (
      go_ret
      refine ⟨ret_bool2 ?_, hb3⟩
      have hx := HX.out
      simp_all [W_beq, W_beq0])
  · have HX : Hid (((qtr a b c d).a = (qtr a (b ^^^ f) c d).a ∧ (qtr a b c d).b = (qtr a (b ^^^ f) c d).b ∧ (qtr a b c d).c = (qtr a (b ^^^ f) c d).c ∧ (qtr a b c d).d = (qtr a (b ^^^ f) c d).d) ↔ f = 0) := Lib.hid (by rw [qtr_xor, xor_fix]; simp)
    go_enter Try.func15, Try.ntmps15
    go_wp2_with fail
    refine (quarter_any _ _ _ _ _).mono ?_
    rintro e w1 ⟨rfl, rfl⟩
    go_wp2_with fail
    refine (quarter_any _ _ _ _ _).mono ?_
    rintro e w1 ⟨rfl, rfl⟩
    generalize qtr a b c d = P at *
    generalize qtr a (b ^^^ f) c d = R at *
    obtain ⟨p0, p1, p2, p3⟩ := P
    obtain ⟨q0, q1, q2, q3⟩ := R
    replace HX : Hid ((p0 = q0 ∧ p1 = q1 ∧ p2 = q2 ∧ p3 = q3) ↔ f = 0) := HX
    dsimp only
    go_wp2_with fail
    refine (told14 _).mono ?_
    rintro e w2 ⟨rfl, hb2⟩
    have hb3 : Below w.heap.size w w2 := ((Below.refl _ _).alloc (Nat.le_refl _) _).trans (hb2.mono (by simp))
    clear h4 hb2
    go_wp2_with fail
    all_goals (
      go_ret
      refine ⟨ret_bool2 ?_, hb3⟩
      have hx := HX.out
      simp_all [W_beq, W_beq0])
  · have HX : Hid (((qtr a b c d).a = (qtr a b (c ^^^ f) d).a ∧ (qtr a b c d).b = (qtr a b (c ^^^ f) d).b ∧ (qtr a b c d).c = (qtr a b (c ^^^ f) d).c ∧ (qtr a b c d).d = (qtr a b (c ^^^ f) d).d) ↔ f = 0) := Lib.hid (by rw [qtr_xor, xor_fix]; simp)
    go_enter Try.func15, Try.ntmps15
    go_wp2_with fail
    refine (quarter_any _ _ _ _ _).mono ?_
    rintro e w1 ⟨rfl, rfl⟩
    go_wp2_with fail
    refine (quarter_any _ _ _ _ _).mono ?_
    rintro e w1 ⟨rfl, rfl⟩
    generalize qtr a b c d = P at *
    generalize qtr a b (c ^^^ f) d = R at *
    obtain ⟨p0, p1, p2, p3⟩ := P
    obtain ⟨q0, q1, q2, q3⟩ := R
    replace HX : Hid ((p0 = q0 ∧ p1 = q1 ∧ p2 = q2 ∧ p3 = q3) ↔ f = 0) := HX
    dsimp only
    go_wp2_with fail
    refine (told14 _).mono ?_
    rintro e w2 ⟨rfl, hb2⟩
    have hb3 : Below w.heap.size w w2 := ((Below.refl _ _).alloc (Nat.le_refl _) _).trans (hb2.mono (by simp))
    clear h4 hb2
    go_wp2_with fail
    all_goals (
      go_ret
      refine ⟨ret_bool2 ?_, hb3⟩
      have hx := HX.out
      simp_all [W_beq, W_beq0])
  · have HX : Hid (((qtr a b c d).a = (qtr a b c (d ^^^ f)).a ∧ (qtr a b c d).b = (qtr a b c (d ^^^ f)).b ∧ (qtr a b c d).c = (qtr a b c (d ^^^ f)).c ∧ (qtr a b c d).d = (qtr a b c (d ^^^ f)).d) ↔ f = 0) := Lib.hid (by rw [qtr_xor, xor_fix]; simp)
    go_enter Try.func15, Try.ntmps15
    go_wp2_with fail
    refine (quarter_any _ _ _ _ _).mono ?_
    rintro e w1 ⟨rfl, rfl⟩
    go_wp2_with fail
    refine (quarter_any _ _ _ _ _).mono ?_
    rintro e w1 ⟨rfl, rfl⟩
    generalize qtr a b c d = P at *
    generalize qtr a b c (d ^^^ f) = R at *
    obtain ⟨p0, p1, p2, p3⟩ := P
    obtain ⟨q0, q1, q2, q3⟩ := R
    replace HX : Hid ((p0 = q0 ∧ p1 = q1 ∧ p2 = q2 ∧ p3 = q3) ↔ f = 0) := HX
    dsimp only
    go_wp2_with fail
    refine (told14 _).mono ?_
    rintro e w2 ⟨rfl, hb2⟩
    have hb3 : Below w.heap.size w w2 := ((Below.refl _ _).alloc (Nat.le_refl _) _).trans (hb2.mono (by simp))
    clear h4 hb2
    go_wp2_with fail
    all_goals (
      go_ret
      refine ⟨ret_bool2 ?_, hb3⟩
      have hx := HX.out
      simp_all [W_beq, W_beq0])
end Go.Proofs.Ytcdklmicbbcknaa
