/-
  steamerlaw14.LaneBack answers true and leaves old memory as it was: by a walk of its text.
-/
import Derived.Test.YtcdklmicbbcknaaEs
import Derived.Test.YtcdklmicbbcknaaRp
namespace Go.Proofs.Ytcdklmicbbcknaa
open Go Go.RowKit
theorem ret_bool3 {b : Bool} (h : b = true) : Ending.returned (.bool b) = .returned (.bool true) := by rw [h]
section
variable (k M N : K8) (hM : Hid (M = mix k)) (hN : Hid (N = back k)) (w : World)
theorem lb_mix : Calls Try.prog 41 #[.agg #[.int .u32 (W k.k0), .int .u32 (W k.k1), .int .u32 (W k.k2), .int .u32 (W k.k3), .int .u32 (W k.k4), .int .u32 (W k.k5), .int .u32 (W k.k6), .int .u32 (W k.k7)]] w fun e w' => e = .returned (.agg (mix k).vals.toArray) ∧ Below w.heap.size w w' := mix_any k w
theorem lb_back : Calls Try.prog 50 #[.agg #[.int .u32 (W k.k0), .int .u32 (W k.k1), .int .u32 (W k.k2), .int .u32 (W k.k3), .int .u32 (W k.k4), .int .u32 (W k.k5), .int .u32 (W k.k6), .int .u32 (W k.k7)]] w fun e w' => e = .returned (.agg (back k).vals.toArray) ∧ Below w.heap.size w w' := kback_any k w
theorem lb_mix_back : Calls Try.prog 41 #[.agg (back k).vals.toArray] w fun e w' => e = .returned (.agg #[.int .u32 (W k.k0), .int .u32 (W k.k1), .int .u32 (W k.k2), .int .u32 (W k.k3), .int .u32 (W k.k4), .int .u32 (W k.k5), .int .u32 (W k.k6), .int .u32 (W k.k7)]) ∧ Below w.heap.size w w' := by
  have h := mix_any (back k) w
  rw [mix_back] at h
  exact h
theorem lb_back_mix : Calls Try.prog 50 #[.agg (mix k).vals.toArray] w fun e w' => e = .returned (.agg #[.int .u32 (W k.k0), .int .u32 (W k.k1), .int .u32 (W k.k2), .int .u32 (W k.k3), .int .u32 (W k.k4), .int .u32 (W k.k5), .int .u32 (W k.k6), .int .u32 (W k.k7)]) ∧ Below w.heap.size w w' := by
  have h := kback_any (mix k) w
  rw [back_mix] at h
  exact h
theorem lb_xor (p : Int) (A : Option Addr) (b : List UInt8) (cb : Nat) (hl : b.length ≤ 200) (hB : Bts w A b) :
    Calls Try.prog 48 #[.agg #[.int .u32 (W k.k0), .int .u32 (W k.k1), .int .u32 (W k.k2), .int .u32 (W k.k3), .int .u32 (W k.k4), .int .u32 (W k.k5), .int .u32 (W k.k6), .int .u32 (W k.k7)], .int .i64 p, .slice A b.length cb] w fun e w' => ∃ A' c r, e = .returned (.slice A' r.length c) ∧ Hid (r = xorL (streamL k p b.length) b) ∧ Hid (r.length = b.length) ∧ Bts w' A' r ∧ Below w.heap.size w w' := by
  refine (xor_any k p A b cb w (by omega) hB).mono ?_
  rintro e w' ⟨A', c, r, hr, rfl, ho, hb⟩
  exact ⟨A', c, r, rfl, hr, Lib.hid (by rw [hr.out, xorL_len2]), ho.bts, hb⟩
end
attribute [local go_sem ↓] eql_28 run_str'
set_option maxRecDepth 20000 in
set_option maxHeartbeats 8000000 in
theorem walk_LaneBack (k : K8) (p : Int) (A : Option Addr) (l : List UInt8) (c : Nat) (w : World) (_hp : -9223372036854775808 ≤ p ∧ p < 9223372036854775808) (hB : Bts w A l) (_hl : l.length ≤ c) (_hc : c ≤ maxLen) :
    Calls Try.prog 17 #[.agg k.vals.toArray, .int .i64 p, .slice A l.length c] w fun e w' => e = .returned (.bool true) ∧ Below w.heap.size w w' := by
  have hb0 : Below w.heap.size w (w.alloc (.cells k.vals.toArray 23)) := (Below.refl _ _).alloc (Nat.le_refl _) _
  by_cases h200 : 200 < l.length
  · unfold K8.vals at *
    go_enter Try.func17, Try.ntmps17
    go_wp2_with fail
    refine (told14 _).mono ?_
    rintro e w1 ⟨rfl, hb1⟩
    go_wp2
    go_ret
    exact ⟨rfl, hb0.trans (hb1.mono (by simp))⟩
  · have HS := Lib.hid (env9_start ((Holds.newAt (w.alloc (.cells k.vals.toArray 23)) 28 k.vals (n := w.heap.size + 1) (by simp)).drew) (w0 := w) (A := A) (l := l) ⟨(hb0.alloc (by simp) _).drew, by simp; omega, ((hB.alloc _).alloc _).drew⟩)
    unfold K8.vals at *
    go_enter Try.func17, Try.ntmps17
    go_wp2_with fail
    clear hB
    refine wp_region_till 29 (fun w' => w'.cell? ⟨w.heap.size + 1, 0, none⟩ = some (.int .u32 (W k.k0)) ∧ w'.cell? ⟨w.heap.size + 1, 1, none⟩ = some (.int .u32 (W k.k1)) ∧ w'.cell? ⟨w.heap.size + 1, 2, none⟩ = some (.int .u32 (W k.k2)) ∧ w'.cell? ⟨w.heap.size + 1, 3, none⟩ = some (.int .u32 (W k.k3)) ∧ w'.cell? ⟨w.heap.size + 1, 4, none⟩ = some (.int .u32 (W k.k4)) ∧ w'.cell? ⟨w.heap.size + 1, 5, none⟩ = some (.int .u32 (W k.k5)) ∧ w'.cell? ⟨w.heap.size + 1, 6, none⟩ = some (.int .u32 (W k.k6)) ∧ w'.cell? ⟨w.heap.size + 1, 7, none⟩ = some (.int .u32 (W k.k7)) ∧ Bts w' A l ∧ Kp w A l w') (fun _ => True) (by kernel_rfl) (HS.out) trivial ?_
    show Go_ _ _ _ _ _ _ _ _ _ _ (World.drew _)
    refine Go_.step (i := 0) (o := ⟨some 13, Op.call { callee := Callee.value (Operand.func 43), args := #[], argTypes := #[] }, 4, _, _, none⟩) (by kernel_rfl) rfl (fun K hT hK => ?_)
    replace hT := hT.1
    rw [if_pos (by rfl)]
    go_simp
    refine (told14 _).mono ?_
    rintro e w' ⟨rfl, hbx⟩
    refine hK.out _ _ (Till.of (env9_keep hT hbx)) ?_
    clear hT hK K
    refine Go_.take (i := 1) (oi := ⟨some 14, Op.move (Operand.tmp 13), 4, _, _, none⟩) (v := ?_) rfl (by kernel_rfl) (by kernel_rfl) (by kernel_rfl) rfl (fun _ _ _ h => h) (Or.inl ⟨by rfl, ?_⟩) ?_
    rotate_left; · intro w0 _; go_simp; try with_reducible rfl
    try simp only [Act.put, List.setIfInBounds_toArray, List.set_cons_zero, List.set_cons_succ]
    refine Go_.take (i := 2) (oi := ⟨some 15, Op.load 28 (Operand.tmp 7), 28, _, _, some (1, true)⟩) (v := ?_) rfl (by kernel_rfl) (by kernel_rfl) (by kernel_rfl) rfl (fun _ _ _ h => h) (Or.inl ⟨by rfl, ?_⟩) ?_
    rotate_left; · intro w0 hS; obtain ⟨c0, c1, c2, c3, c4, c5, c6, c7, cB, cK⟩ := hS; go_simp; try with_reducible rfl
    try simp only [Act.put, List.setIfInBounds_toArray, List.set_cons_zero, List.set_cons_succ]
    refine Go_.take (i := 5) (oi := ⟨some 18, Op.load 28 (Operand.tmp 7), 28, _, _, some (1, true)⟩) (v := ?_) rfl (by kernel_rfl) (by kernel_rfl) (by kernel_rfl) rfl (fun _ _ _ h => h) (Or.inl ⟨by rfl, ?_⟩) ?_
    rotate_left; · intro w0 hS; obtain ⟨c0, c1, c2, c3, c4, c5, c6, c7, cB, cK⟩ := hS; go_simp; try with_reducible rfl
    try simp only [Act.put, List.setIfInBounds_toArray, List.set_cons_zero, List.set_cons_succ]
    refine Go_.step (i := 3) (o := ⟨some 16, Op.call { callee := Callee.value (Operand.func 41), args := #[Operand.tmp 15], argTypes := #[28] }, 28, _, _, some (1, true)⟩) (by kernel_rfl) rfl (fun K hT hK => ?_)
    replace hT := hT.1
    rw [if_pos (by rfl)]
    go_simp
    refine (lb_mix k _).mono ?_
    rintro e w' ⟨rfl, hbx⟩
    refine hK.out _ _ (Till.of (env9_keep hT hbx)) ?_
    clear hT hK K
    refine Go_.step (i := 4) (o := ⟨some 17, Op.call { callee := Callee.value (Operand.func 50), args := #[Operand.tmp 16], argTypes := #[28] }, 28, _, _, some (1, true)⟩) (by kernel_rfl) rfl (fun K hT hK => ?_)
    replace hT := hT.1
    rw [if_pos (by rfl)]
    go_simp
    refine (lb_back_mix k _).mono ?_
    rintro e w' ⟨rfl, hbx⟩
    refine hK.out _ _ (Till.of (env9_keep hT hbx)) ?_
    clear hT hK K
    refine Go_.take (i := 6) (oi := ⟨some 19, Op.binOp BinOp.eql 28 (Operand.tmp 17) (Operand.tmp 18) 28, 4, _, _, some (1, true)⟩) (v := ?_) rfl (by kernel_rfl) (by kernel_rfl) (by kernel_rfl) rfl (fun _ _ _ h => h) (Or.inl ⟨by rfl, ?_⟩) ?_
    rotate_left; · intro w0 _; go_simp; try with_reducible rfl
    try simp only [Act.put, List.setIfInBounds_toArray, List.set_cons_zero, List.set_cons_succ]
    refine Go_.take (i := 7) (oi := ⟨some 20, Op.pick (Operand.tmp 14) (Operand.tmp 19) (Operand.const (Value.bool false)), 4, _, _, none⟩) (v := ?_) rfl (by kernel_rfl) (by kernel_rfl) (by kernel_rfl) rfl (fun _ _ _ h => h) (Or.inl ⟨by rfl, ?_⟩) ?_
    rotate_left; · intro w0 _; go_simp; try with_reducible rfl
    try simp only [Act.put, List.setIfInBounds_toArray, List.set_cons_zero, List.set_cons_succ]
    refine Go_.take (i := 8) (oi := ⟨some 21, Op.move (Operand.tmp 20), 4, _, _, none⟩) (v := ?_) rfl (by kernel_rfl) (by kernel_rfl) (by kernel_rfl) rfl (fun _ _ _ h => h) (Or.inl ⟨by rfl, ?_⟩) ?_
    rotate_left; · intro w0 _; go_simp; try with_reducible rfl
    try simp only [Act.put, List.setIfInBounds_toArray, List.set_cons_zero, List.set_cons_succ]
    refine Go_.take (i := 9) (oi := ⟨some 22, Op.load 28 (Operand.tmp 7), 28, _, _, some (8, true)⟩) (v := ?_) rfl (by kernel_rfl) (by kernel_rfl) (by kernel_rfl) rfl (fun _ _ _ h => h) (Or.inl ⟨by rfl, ?_⟩) ?_
    rotate_left; · intro w0 hS; obtain ⟨c0, c1, c2, c3, c4, c5, c6, c7, cB, cK⟩ := hS; go_simp; try with_reducible rfl
    try simp only [Act.put, List.setIfInBounds_toArray, List.set_cons_zero, List.set_cons_succ]
    refine Go_.take (i := 12) (oi := ⟨some 25, Op.load 28 (Operand.tmp 7), 28, _, _, some (8, true)⟩) (v := ?_) rfl (by kernel_rfl) (by kernel_rfl) (by kernel_rfl) rfl (fun _ _ _ h => h) (Or.inl ⟨by rfl, ?_⟩) ?_
    rotate_left; · intro w0 hS; obtain ⟨c0, c1, c2, c3, c4, c5, c6, c7, cB, cK⟩ := hS; go_simp; try with_reducible rfl
    try simp only [Act.put, List.setIfInBounds_toArray, List.set_cons_zero, List.set_cons_succ]
    refine Go_.step (i := 10) (o := ⟨some 23, Op.call { callee := Callee.value (Operand.func 50), args := #[Operand.tmp 22], argTypes := #[28] }, 28, _, _, some (8, true)⟩) (by kernel_rfl) rfl (fun K hT hK => ?_)
    replace hT := hT.1
    rw [if_pos (by rfl)]
    go_simp
    refine (lb_back k _).mono ?_
    rintro e w' ⟨rfl, hbx⟩
    refine hK.out _ _ (Till.of (env9_keep hT hbx)) ?_
    clear hT hK K
    refine Go_.step (i := 11) (o := ⟨some 24, Op.call { callee := Callee.value (Operand.func 41), args := #[Operand.tmp 23], argTypes := #[28] }, 28, _, _, some (8, true)⟩) (by kernel_rfl) rfl (fun K hT hK => ?_)
    replace hT := hT.1
    rw [if_pos (by rfl)]
    go_simp
    refine (lb_mix_back k _).mono ?_
    rintro e w' ⟨rfl, hbx⟩
    refine hK.out _ _ (Till.of (env9_keep hT hbx)) ?_
    clear hT hK K
    refine Go_.take (i := 13) (oi := ⟨some 26, Op.binOp BinOp.eql 28 (Operand.tmp 24) (Operand.tmp 25) 28, 4, _, _, some (8, true)⟩) (v := ?_) rfl (by kernel_rfl) (by kernel_rfl) (by kernel_rfl) rfl (fun _ _ _ h => h) (Or.inl ⟨by rfl, ?_⟩) ?_
    rotate_left; · intro w0 _; go_simp; try with_reducible rfl
    try simp only [Act.put, List.setIfInBounds_toArray, List.set_cons_zero, List.set_cons_succ]
    refine Go_.take (i := 14) (oi := ⟨some 27, Op.pick (Operand.tmp 21) (Operand.tmp 26) (Operand.const (Value.bool false)), 4, _, _, none⟩) (v := ?_) rfl (by kernel_rfl) (by kernel_rfl) (by kernel_rfl) rfl (fun _ _ _ h => h) (Or.inl ⟨by rfl, ?_⟩) ?_
    rotate_left; · intro w0 _; go_simp; try with_reducible rfl
    try simp only [Act.put, List.setIfInBounds_toArray, List.set_cons_zero, List.set_cons_succ]
    refine Go_.take (i := 15) (oi := ⟨some 28, Op.move (Operand.tmp 27), 4, _, _, none⟩) (v := ?_) rfl (by kernel_rfl) (by kernel_rfl) (by kernel_rfl) rfl (fun _ _ _ h => h) (Or.inl ⟨by rfl, ?_⟩) ?_
    rotate_left; · intro w0 _; go_simp; try with_reducible rfl
    try simp only [Act.put, List.setIfInBounds_toArray, List.set_cons_zero, List.set_cons_succ]
    refine Go_.take (i := 16) (oi := ⟨some 29, Op.load 28 (Operand.tmp 7), 28, _, _, some (15, true)⟩) (v := ?_) rfl (by kernel_rfl) (by kernel_rfl) (by kernel_rfl) rfl (fun _ _ _ h => h) (Or.inl ⟨by rfl, ?_⟩) ?_
    rotate_left; · intro w0 hS; obtain ⟨c0, c1, c2, c3, c4, c5, c6, c7, cB, cK⟩ := hS; go_simp; try with_reducible rfl
    try simp only [Act.put, List.setIfInBounds_toArray, List.set_cons_zero, List.set_cons_succ]
    refine Go_.take (i := 17) (oi := ⟨some 30, Op.move (Operand.tmp 1), 3, _, _, some (15, true)⟩) (v := ?_) rfl (by kernel_rfl) (by kernel_rfl) (by kernel_rfl) rfl (fun _ _ _ h => h) (Or.inl ⟨by rfl, ?_⟩) ?_
    rotate_left; · intro w0 _; go_simp; try with_reducible rfl
    try simp only [Act.put, List.setIfInBounds_toArray, List.set_cons_zero, List.set_cons_succ]
    refine Go_.take (i := 18) (oi := ⟨some 31, Op.load 28 (Operand.tmp 7), 28, _, _, some (15, true)⟩) (v := ?_) rfl (by kernel_rfl) (by kernel_rfl) (by kernel_rfl) rfl (fun _ _ _ h => h) (Or.inl ⟨by rfl, ?_⟩) ?_
    rotate_left; · intro w0 hS; obtain ⟨c0, c1, c2, c3, c4, c5, c6, c7, cB, cK⟩ := hS; go_simp; try with_reducible rfl
    try simp only [Act.put, List.setIfInBounds_toArray, List.set_cons_zero, List.set_cons_succ]
    refine Go_.take (i := 19) (oi := ⟨some 32, Op.move (Operand.tmp 1), 3, _, _, some (15, true)⟩) (v := ?_) rfl (by kernel_rfl) (by kernel_rfl) (by kernel_rfl) rfl (fun _ _ _ h => h) (Or.inl ⟨by rfl, ?_⟩) ?_
    rotate_left; · intro w0 _; go_simp; try with_reducible rfl
    try simp only [Act.put, List.setIfInBounds_toArray, List.set_cons_zero, List.set_cons_succ]
    refine Go_.take (i := 20) (oi := ⟨some 33, Op.move (Operand.tmp 2), 24, _, _, some (15, true)⟩) (v := ?_) rfl (by kernel_rfl) (by kernel_rfl) (by kernel_rfl) rfl (fun _ _ _ h => h) (Or.inl ⟨by rfl, ?_⟩) ?_
    rotate_left; · intro w0 _; go_simp; try with_reducible rfl
    try simp only [Act.put, List.setIfInBounds_toArray, List.set_cons_zero, List.set_cons_succ]
    refine Go_.take (i := 24) (oi := ⟨some 37, Op.move (Operand.tmp 2), 24, _, _, some (15, true)⟩) (v := ?_) rfl (by kernel_rfl) (by kernel_rfl) (by kernel_rfl) rfl (fun _ _ _ h => h) (Or.inl ⟨by rfl, ?_⟩) ?_
    rotate_left; · intro w0 _; go_simp; try with_reducible rfl
    try simp only [Act.put, List.setIfInBounds_toArray, List.set_cons_zero, List.set_cons_succ]
    refine Go_.take (i := 25) (oi := ⟨some 38, Op.convert 24 9 (Operand.tmp 37), 9, _, _, some (15, true)⟩) (v := ?_) rfl (by kernel_rfl) (by kernel_rfl) (by kernel_rfl) rfl (fun _ _ _ h => h) (Or.inl ⟨by rfl, ?_⟩) ?_
    rotate_left; · intro w0 hS; obtain ⟨c0, c1, c2, c3, c4, c5, c6, c7, cB, cK⟩ := hS; go_simp; try with_reducible rfl
    try simp only [Act.put, List.setIfInBounds_toArray, List.set_cons_zero, List.set_cons_succ]
    refine Go_.step (i := 21) (o := ⟨some 34, Op.call { callee := Callee.value (Operand.func 48), args := #[Operand.tmp 31, Operand.tmp 32, Operand.tmp 33], argTypes := #[28, 3, 24] }, 24, _, _, some (15, true)⟩) (by kernel_rfl) rfl (fun K hT hK => ?_)
    replace hT := hT.1
    rw [if_pos (by rfl)]
    go_simp
    refine (lb_xor k _ p A l c (by omega) (env9_kp hT).2.2).mono ?_
    rintro e w' ⟨A6, c6, r6, rfl, hr6, hl6, hB6, hbx⟩
    refine hK.out _ _ (Till.of (env9_keep hT hbx)) ?_
    clear hT hK K
    refine Go_.step (i := 22) (o := ⟨some 35, Op.call { callee := Callee.value (Operand.func 48), args := #[Operand.tmp 29, Operand.tmp 30, Operand.tmp 34], argTypes := #[28, 3, 24] }, 24, _, _, some (15, true)⟩) (by kernel_rfl) rfl (fun K hT hK => ?_)
    replace hT := hT.1
    rw [if_pos (by rfl)]
    go_simp
    refine (lb_xor k _ p A6 r6 c6 (by have := hl6.out; omega) hB6).mono ?_
    rintro e w' ⟨A7, c7, r7, rfl, hr7, hl7, hB7, hbx⟩
    refine hK.out _ _ (Till.of (env9_keep hT hbx)) ?_
    have hfin := (env9_kp (env9_keep hT hbx)).below
    clear hT hK K
    refine Go_.raise (C := fun w0 => Bts w0 A7 r7) hB7 ?_
    refine Go_.take (i := 23) (oi := ⟨some 36, Op.convert 24 9 (Operand.tmp 35), 9, _, _, some (15, true)⟩) (v := ?_) rfl (by kernel_rfl) (by kernel_rfl) (by kernel_rfl) rfl (fun _ _ _ h => h) (Or.inl ⟨by rfl, ?_⟩) ?_
    rotate_left; · intro w0 hS; obtain ⟨⟨c0, c1, c2, c3, c4, c5, c6, c7, cB, cK⟩, cB7⟩ := hS; go_simp; try with_reducible rfl
    try simp only [Act.put, List.setIfInBounds_toArray, List.set_cons_zero, List.set_cons_succ]
    refine Go_.take (i := 26) (oi := ⟨some 39, Op.binOp BinOp.eql 9 (Operand.tmp 36) (Operand.tmp 38) 9, 4, _, _, some (15, true)⟩) (v := ?_) rfl (by kernel_rfl) (by kernel_rfl) (by kernel_rfl) rfl (fun _ _ _ h => h) (Or.inl ⟨by rfl, ?_⟩) ?_
    rotate_left; · intro w0 _; go_simp; try with_reducible rfl
    try simp only [Act.put, List.setIfInBounds_toArray, List.set_cons_zero, List.set_cons_succ]
    refine Go_.take (i := 27) (oi := ⟨some 40, Op.pick (Operand.tmp 28) (Operand.tmp 39) (Operand.const (Value.bool false)), 4, _, _, none⟩) (v := ?_) rfl (by kernel_rfl) (by kernel_rfl) (by kernel_rfl) rfl (fun _ _ _ h => h) (Or.inl ⟨by rfl, ?_⟩) ?_
    rotate_left; · intro w0 _; go_simp; try with_reducible rfl
    try simp only [Act.put, List.setIfInBounds_toArray, List.set_cons_zero, List.set_cons_succ]
    refine Go_.take (i := 28) (oi := ⟨some 6, Op.assign (Operand.tmp 40), 4, _, _, none⟩) (v := ?_) rfl (by kernel_rfl) (by kernel_rfl) (by kernel_rfl) rfl (fun _ _ _ h => h) (Or.inl ⟨by rfl, ?_⟩) ?_
    rotate_left; · intro w0 _; go_simp; try with_reducible rfl
    try simp only [Act.put, List.setIfInBounds_toArray, List.set_cons_zero, List.set_cons_succ]
    refine Go_.done (by kernel_rfl) ?_
    go_wp2
    go_ret
    refine ⟨ret_bool3 ?_, hfin⟩
    rw [hr7.out, hr6.out, xor_twice]
    simp
end Go.Proofs.Ytcdklmicbbcknaa
