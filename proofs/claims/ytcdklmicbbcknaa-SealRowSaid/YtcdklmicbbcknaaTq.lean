/-
  The told() of layer 14: it answers true, by a walk of its text.
-/
import Derived.Test.YtcdklmicbbcknaaXo
import Derived.Test.YtcdklmicbbcknaaLb
import Derived.Test.YtcdklmicbbcknaaEq
import Derived.Deep.RegionHeld3
namespace Go.Proofs.Ytcdklmicbbcknaa
open Go Go.RowKit
theorem cells22 : Try.prog.cellsOf 22 = 1 := by kernel_rfl
section
variable (w : World) (a0 a1 a2 a3 a4 a5 a6 a7 b0 b1 b2 b3 b4 b5 b6 b7 : Int)
theorem eql_arr (t : TypeId) (ht : Try.prog.underlying t = some (.array 8 22)) : (binOp .eql t (.agg #[.int .u32 a0, .int .u32 a1, .int .u32 a2, .int .u32 a3, .int .u32 a4, .int .u32 a5, .int .u32 a6, .int .u32 a7]) (.agg #[.int .u32 b0, .int .u32 b1, .int .u32 b2, .int .u32 b3, .int .u32 b4, .int .u32 b5, .int .u32 b6, .int .u32 b7])).run Try.prog w
    = .ok (.bool (decide ([a0, a1, a2, a3, a4, a5, a6, a7] = [b0, b1, b2, b3, b4, b5, b6, b7]))) w := by
  obtain ⟨inf, hi, _⟩ : ∃ inf, Try.prog.info? 22 = some inf ∧ inf.size = 1 := by
    cases hx : Try.prog.info? 22 with
    | none => have := info22b; rw [hx] at this; cases this
    | some j => exact ⟨j, rfl, by have := info22b; rw [hx] at this; simpa using this⟩
  exact run_eql_ints (P := Try.prog) w t 22 8 .u32 ht hi cells22 Try.underlying22 [a0, a1, a2, a3, a4, a5, a6, a7] [b0, b1, b2, b3, b4, b5, b6, b7] rfl rfl
theorem eql_28 : (binOp .eql 28 (.agg #[.int .u32 a0, .int .u32 a1, .int .u32 a2, .int .u32 a3, .int .u32 a4, .int .u32 a5, .int .u32 a6, .int .u32 a7]) (.agg #[.int .u32 b0, .int .u32 b1, .int .u32 b2, .int .u32 b3, .int .u32 b4, .int .u32 b5, .int .u32 b6, .int .u32 b7])).run Try.prog w
    = .ok (.bool (decide ([a0, a1, a2, a3, a4, a5, a6, a7] = [b0, b1, b2, b3, b4, b5, b6, b7]))) w := eql_arr w _ _ _ _ _ _ _ _ _ _ _ _ _ _ _ _ 28 Try.underlying28
theorem eql_23 : (binOp .eql 23 (.agg #[.int .u32 a0, .int .u32 a1, .int .u32 a2, .int .u32 a3, .int .u32 a4, .int .u32 a5, .int .u32 a6, .int .u32 a7]) (.agg #[.int .u32 b0, .int .u32 b1, .int .u32 b2, .int .u32 b3, .int .u32 b4, .int .u32 b5, .int .u32 b6, .int .u32 b7])).run Try.prog w
    = .ok (.bool (decide ([a0, a1, a2, a3, a4, a5, a6, a7] = [b0, b1, b2, b3, b4, b5, b6, b7]))) w := eql_arr w _ _ _ _ _ _ _ _ _ _ _ _ _ _ _ _ 23 Try.underlying23
theorem eql_32 : (binOp .eql 32 (.agg #[.int .u32 a0, .int .u32 a1, .int .u32 a2, .int .u32 a3, .int .u32 a4, .int .u32 a5, .int .u32 a6, .int .u32 a7]) (.agg #[.int .u32 b0, .int .u32 b1, .int .u32 b2, .int .u32 b3, .int .u32 b4, .int .u32 b5, .int .u32 b6, .int .u32 b7])).run Try.prog w
    = .ok (.bool (decide ([a0, a1, a2, a3, a4, a5, a6, a7] = [b0, b1, b2, b3, b4, b5, b6, b7]))) w := eql_arr w _ _ _ _ _ _ _ _ _ _ _ _ _ _ _ _ 32 Try.underlying32
end
def KQ : K8 := ⟨1, 2, 3, 0, 0, 0, 0, 0⟩
theorem quarter_q (w : World) : Calls Try.prog 42 #[.int .u32 286331153, .int .u32 16909060, .int .u32 2609737539, .int .u32 19088743] w fun e w' => e = .returned (.tuple #[.int .u32 3928658676, .int .u32 3407673550, .int .u32 1166100270, .int .u32 1484899515]) ∧ w = w' := by
  have h := quarter_any 286331153#32 16909060#32 2609737539#32 19088743#32 w
  have e : qtr 286331153#32 16909060#32 2609737539#32 19088743#32 = ⟨3928658676#32, 3407673550#32, 1166100270#32, 1484899515#32⟩ := by apply Q4.ext <;> decide +kernel
  rw [e] at h
  exact h
theorem mix_q (M : K8) (hM : Hid (M = mix KQ)) (w : World) : Calls Try.prog 41 #[.agg #[.int .u32 1, .int .u32 2, .int .u32 3, .int .u32 0, .int .u32 0, .int .u32 0, .int .u32 0, .int .u32 0]] w fun e w' => e = .returned (.agg M.vals.toArray) ∧ Below w.heap.size w w' := by
  have h := mix_any KQ w
  rw [← hM.out] at h
  exact h
theorem back_q (M : K8) (hM : Hid (M = mix KQ)) (w : World) : Calls Try.prog 50 #[.agg M.vals.toArray] w fun e w' => e = .returned (.agg #[.int .u32 1, .int .u32 2, .int .u32 3, .int .u32 0, .int .u32 0, .int .u32 0, .int .u32 0, .int .u32 0]) ∧ Below w.heap.size w w' := by
  have h := kback_any M w
  rw [hM.out, back_mix] at h
  rw [hM.out]
  exact h
theorem stream_q (w : World) : Calls Try.prog 46 #[.agg #[.int .u32 1, .int .u32 2, .int .u32 3, .int .u32 0, .int .u32 0, .int .u32 0, .int .u32 0, .int .u32 0], .int .i64 0, .int .i64 5] w fun e w' => ∃ A c, e = .returned (.slice A 5 c) ∧ Below w.heap.size w w' := by
  refine (stream_any KQ 0 5 w (by omega)).mono ?_
  rintro e w' ⟨A, c, r, hr, rfl, _, hb⟩
  have hl : r.length = 5 := by rw [hr.out, streamL_len]
  exact ⟨A, c, by rw [hl], hb⟩
theorem stream_qb (w : World) : Calls Try.prog 46 #[.agg #[.int .u32 1, .int .u32 2, .int .u32 3, .int .u32 0, .int .u32 0, .int .u32 0, .int .u32 0, .int .u32 0], .int .i64 0, .int .i64 (-1)] w fun e w' => e = .returned (.slice none 0 0) ∧ Below w.heap.size w w' :=
  stream_bad KQ 0 (-1) w (by omega)
theorem xor_q (w : World) : Calls Try.prog 48 #[.agg #[.int .u32 1, .int .u32 2, .int .u32 3, .int .u32 0, .int .u32 0, .int .u32 0, .int .u32 0, .int .u32 0], .int .i64 0, .slice none 0 0] w fun e w' => ∃ A c, e = .returned (.slice A 0 c) ∧ Below w.heap.size w w' := by
  refine (xor_any KQ 0 none [] 0 w (by simp) (Bts.nil _ _)).mono ?_
  rintro e w' ⟨A, c, r, hr, rfl, _, hb⟩
  have hl : r.length = 0 := by rw [hr.out]; simp [xorL]
  exact ⟨A, c, by rw [hl], hb⟩
attribute [local go_sem ↓] eql_28
set_option maxRecDepth 20000 in
set_option maxHeartbeats 8000000 in
theorem told14 (w : World) : Calls Try.prog 43 #[] w fun e w' => e = .returned (.bool true) ∧ Below w.heap.size w w' := by
  obtain ⟨M, hM⟩ : ∃ M, Hid (M = mix KQ) := ⟨_, rfl⟩
  have HS := Lib.hid (env8_start (Holds.new w 28 [.int .u32 1, .int .u32 2, .int .u32 3, .int .u32 0, .int .u32 0, .int .u32 0, .int .u32 0, .int .u32 0]).drew (w0 := w) (A := none) (l := []) ⟨((Below.refl _ _).alloc (Nat.le_refl _) _).drew, by simp, Bts.nil _ _⟩)
  go_enter Try.func43, Try.ntmps43
  go_wp2_with fail
  refine (quarter_q _).mono ?_
  rintro e w' ⟨rfl, rfl⟩
  go_wp2_with fail
  go_region_held3 (fun w' => w'.cell? ⟨w.heap.size, 0, none⟩ = some (.int .u32 1) ∧ w'.cell? ⟨w.heap.size, 1, none⟩ = some (.int .u32 2) ∧ w'.cell? ⟨w.heap.size, 2, none⟩ = some (.int .u32 3) ∧ w'.cell? ⟨w.heap.size, 3, none⟩ = some (.int .u32 0) ∧ w'.cell? ⟨w.heap.size, 4, none⟩ = some (.int .u32 0) ∧ w'.cell? ⟨w.heap.size, 5, none⟩ = some (.int .u32 0) ∧ w'.cell? ⟨w.heap.size, 6, none⟩ = some (.int .u32 0) ∧ w'.cell? ⟨w.heap.size, 7, none⟩ = some (.int .u32 0) ∧ Kp w none [] w')
    (first | exact HS.out | exact env8_keep (by assumption) hbx)
    (first
      | (go_at_call 41; refine (mix_q M hM _).mono ?_; rintro e w' ⟨rfl, hbx⟩)
      | (go_at_call 50; refine (back_q M hM _).mono ?_; rintro e w' ⟨rfl, hbx⟩)
      | (go_at_call 46; first | ((with_reducible refine (stream_q _).mono ?_); rintro e w' ⟨A5, c5, rfl, hbx⟩) | ((with_reducible refine (stream_qb _).mono ?_); rintro e w' ⟨rfl, hbx⟩))
      | (go_at_call 48; refine (xor_q _).mono ?_; rintro e w' ⟨A6, c6, rfl, hbx⟩))
  go_wp2
  go_ret
  exact ⟨by simp, (env8_kp (by assumption)).below⟩
end Go.Proofs.Ytcdklmicbbcknaa
