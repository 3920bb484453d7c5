/-
  tag.Same: what it comes to, by a walk of its text.
-/
import Derived.Test.YtcdklmicbbcknaaTs
import Derived.Test.YtcdklmicbbcknaaEq
namespace Go.Proofs.Ytcdklmicbbcknaa
open Go.RowKit
theorem info5 : (Try.prog.info? 5).isSome = true := by kernel_rfl
theorem cells5 : Try.prog.cellsOf 5 = 1 := by kernel_rfl
theorem same_any (a0 a1 a2 a3 a4 a5 a6 a7 b0 b1 b2 b3 b4 b5 b6 b7 : Int) (w : World) :
    Calls Try.prog 29 #[.agg #[.int .u8 a0, .int .u8 a1, .int .u8 a2, .int .u8 a3, .int .u8 a4, .int .u8 a5, .int .u8 a6, .int .u8 a7], .agg #[.int .u8 b0, .int .u8 b1, .int .u8 b2, .int .u8 b3, .int .u8 b4, .int .u8 b5, .int .u8 b6, .int .u8 b7]] w
      fun e w' => e = .returned (.bool (decide ([a0, a1, a2, a3, a4, a5, a6, a7] = [b0, b1, b2, b3, b4, b5, b6, b7]))) ∧ Below w.heap.size w w' := by
  obtain ⟨i, hi⟩ := Option.isSome_iff_exists.1 info5
  have heq : ∀ w : World, (binOp .eql 26 (.agg #[.int .u8 a0, .int .u8 a1, .int .u8 a2, .int .u8 a3, .int .u8 a4, .int .u8 a5, .int .u8 a6, .int .u8 a7]) (.agg #[.int .u8 b0, .int .u8 b1, .int .u8 b2, .int .u8 b3, .int .u8 b4, .int .u8 b5, .int .u8 b6, .int .u8 b7])).run Try.prog w
      = .ok (.bool (decide ([a0, a1, a2, a3, a4, a5, a6, a7] = [b0, b1, b2, b3, b4, b5, b6, b7]))) w :=
    fun w => run_eql_ints (P := Try.prog) w 26 5 8 .u8 Try.underlying26 hi cells5 Try.underlying5 [a0, a1, a2, a3, a4, a5, a6, a7] [b0, b1, b2, b3, b4, b5, b6, b7] rfl rfl
  clear hi
  generalize decide ([a0, a1, a2, a3, a4, a5, a6, a7] = [b0, b1, b2, b3, b4, b5, b6, b7]) = r at *
  go_enter Try.func29, Try.ntmps29
  go_wp2
  go_ret
  exact ⟨rfl, ((Below.refl _ _).alloc (Nat.le_refl _) _).alloc (by simp) _⟩
theorem toInt_inj {x y : UInt8} : ((x.toNat : Int) = (y.toNat : Int)) ↔ x = y := by
  constructor
  · intro h; exact UInt8.toNat_inj.1 (by omega)
  · rintro rfl; rfl
theorem same_bytes (l m : List UInt8) (hl : l.length = 8) (hm : m.length = 8) (w : World) :
    Calls Try.prog 29 #[.agg (bvals l).toArray, .agg (bvals m).toArray] w fun e w' => e = .returned (.bool (decide (l = m))) ∧ Below w.heap.size w w' := by
  match l, hl with
  | [a0, a1, a2, a3, a4, a5, a6, a7], _ =>
    match m, hm with
    | [b0, b1, b2, b3, b4, b5, b6, b7], _ =>
      refine (same_any a0.toNat a1.toNat a2.toNat a3.toNat a4.toNat a5.toNat a6.toNat a7.toNat b0.toNat b1.toNat b2.toNat b3.toNat b4.toNat b5.toNat b6.toNat b7.toNat w).mono fun e w' ⟨he, hw⟩ => ⟨?_, hw⟩
      rw [he]
      simp only [List.cons.injEq, toInt_inj]
theorem same8 (a0 a1 a2 a3 a4 a5 a6 a7 b0 b1 b2 b3 b4 b5 b6 b7 : UInt8) (w : World) :
    Calls Try.prog 29 #[.agg #[.int .u8 a0.toNat, .int .u8 a1.toNat, .int .u8 a2.toNat, .int .u8 a3.toNat, .int .u8 a4.toNat, .int .u8 a5.toNat, .int .u8 a6.toNat, .int .u8 a7.toNat], .agg #[.int .u8 b0.toNat, .int .u8 b1.toNat, .int .u8 b2.toNat, .int .u8 b3.toNat, .int .u8 b4.toNat, .int .u8 b5.toNat, .int .u8 b6.toNat, .int .u8 b7.toNat]] w
      fun e w' => e = .returned (.bool (decide (a0 = b0 ∧ a1 = b1 ∧ a2 = b2 ∧ a3 = b3 ∧ a4 = b4 ∧ a5 = b5 ∧ a6 = b6 ∧ a7 = b7))) ∧ Below w.heap.size w w' := by
  refine (same_any a0.toNat a1.toNat a2.toNat a3.toNat a4.toNat a5.toNat a6.toNat a7.toNat b0.toNat b1.toNat b2.toNat b3.toNat b4.toNat b5.toNat b6.toNat b7.toNat w).mono fun e w' ⟨he, hw⟩ => ⟨?_, hw⟩
  rw [he]
  simp only [List.cons.injEq, toInt_inj, and_true]
theorem tagL_len (k : K8) (p : Int) (l : List UInt8) : (tagL k p l).length = 8 := rfl
end Go.Proofs.Ytcdklmicbbcknaa
