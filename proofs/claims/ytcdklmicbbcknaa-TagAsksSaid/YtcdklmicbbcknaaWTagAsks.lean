/-
  steamerlaw15.TagAsks answers true and leaves old memory as it was: by a walk of its text (printed by tagasks.py).
-/
import Derived.Test.YtcdklmicbbcknaaRt
import Derived.Test.YtcdklmicbbcknaaTt
namespace Go.Proofs.Ytcdklmicbbcknaa
open Go Go.RowKit
section
variable {k : K8} {p : Int} {l : List UInt8} {t0 t1 t2 t3 t4 t5 t6 t7 : UInt8} (hT : Hid (tagL k p l = [t0, t1, t2, t3, t4, t5, t6, t7])) (hl : l.length ≤ 200) (w : World)
include hT hl
theorem ta_of (A : Option Addr) (c : Nat) (hB : Bts w A l) : Calls Try.prog 25 #[.agg #[.int .u32 (W k.k0), .int .u32 (W k.k1), .int .u32 (W k.k2), .int .u32 (W k.k3), .int .u32 (W k.k4), .int .u32 (W k.k5), .int .u32 (W k.k6), .int .u32 (W k.k7)], .int .i64 p, .slice A l.length c] w fun e w' => e = .returned (.agg #[.int .u8 (t0.toNat : Int), .int .u8 (t1.toNat : Int), .int .u8 (t2.toNat : Int), .int .u8 (t3.toNat : Int), .int .u8 (t4.toNat : Int), .int .u8 (t5.toNat : Int), .int .u8 (t6.toNat : Int), .int .u8 (t7.toNat : Int)]) ∧ Below w.heap.size w w' := by
  have h := of_any k p A l c w (by omega) hB
  rw [hT.out] at h
  exact h
theorem ta_rtag : Calls Try.prog 28 #[.agg #[.int .u32 (W k.k0), .int .u32 (W k.k1), .int .u32 (W k.k2), .int .u32 (W k.k3), .int .u32 (W k.k4), .int .u32 (W k.k5), .int .u32 (W k.k6), .int .u32 (W k.k7)], .int .i64 p, .string (mkStr l)] w fun e w' => e = .returned (.string (mkStr [t0, t1, t2, t3, t4, t5, t6, t7])) ∧ Below w.heap.size w w' := by
  have h := rtag_any k p l w (by omega)
  rw [hT.out] at h
  exact h
end
theorem ta_same (t0 t1 t2 t3 t4 t5 t6 t7 : UInt8) (w : World) : Calls Try.prog 29 #[.agg #[.int .u8 (t0.toNat : Int), .int .u8 (t1.toNat : Int), .int .u8 (t2.toNat : Int), .int .u8 (t3.toNat : Int), .int .u8 (t4.toNat : Int), .int .u8 (t5.toNat : Int), .int .u8 (t6.toNat : Int), .int .u8 (t7.toNat : Int)], .agg #[.int .u8 (t0.toNat : Int), .int .u8 (t1.toNat : Int), .int .u8 (t2.toNat : Int), .int .u8 (t3.toNat : Int), .int .u8 (t4.toNat : Int), .int .u8 (t5.toNat : Int), .int .u8 (t6.toNat : Int), .int .u8 (t7.toNat : Int)]] w fun e w' => e = .returned (.bool true) ∧ Below w.heap.size w w' := by
  refine (same8 t0 t1 t2 t3 t4 t5 t6 t7 t0 t1 t2 t3 t4 t5 t6 t7 w).mono ?_
  rintro e w' ⟨rfl, hb⟩
  exact ⟨by simp, hb⟩
theorem ret_boolA {b : Bool} (h : b = true) : Ending.returned (.bool b) = .returned (.bool true) := by rw [h]
attribute [local go_sem ↓] run_str'
set_option maxRecDepth 20000 in
set_option maxHeartbeats 8000000 in
theorem walk_TagAsks (r s : BitVec 32) (k : K8) (p : Int) (A : Option Addr) (l : List UInt8) (c : Nat) (w : World) (_hp : -9223372036854775808 ≤ p ∧ p < 9223372036854775808) (hB : Bts w A l) (_hl : l.length ≤ c) (_hc : c ≤ maxLen) :
    Calls Try.prog 3 #[.int .u32 (W r), .int .u32 (W s), .agg k.vals.toArray, .int .i64 p, .slice A l.length c] w fun e w' => e = .returned (.bool true) ∧ Below w.heap.size w w' := by
  have hb0 : Below w.heap.size w (w.alloc (.cells k.vals.toArray 23)) := (Below.refl _ _).alloc (Nat.le_refl _) _
  by_cases h200 : 200 < l.length
  · unfold K8.vals at *
    go_enter Try.func3, Try.ntmps3
    go_wp2_with fail
    refine (told15 _).mono ?_
    rintro e w1 ⟨rfl, hb1⟩
    go_wp2
    go_ret
    exact ⟨rfl, hb0.trans (hb1.mono (by simp))⟩
  · have hl2 : l.length ≤ 200 := by omega
    obtain ⟨t0, t1, t2, t3, t4, t5, t6, t7, hT⟩ : ∃ t0 t1 t2 t3 t4 t5 t6 t7, Hid (tagL k p l = [t0, t1, t2, t3, t4, t5, t6, t7]) := ⟨_, _, _, _, _, _, _, _, rfl⟩
    have hTT := hT
    have hk0 := Holds.newAt w 23 [.int .u32 (W k.k0), .int .u32 (W k.k1), .int .u32 (W k.k2), .int .u32 (W k.k3), .int .u32 (W k.k4), .int .u32 (W k.k5), .int .u32 (W k.k6), .int .u32 (W k.k7)] (n := w.heap.size) rfl
    unfold K8.vals at *
    go_enter Try.func3, Try.ntmps3
    go_wp2_with fail
    refine (ta_of hT hl2 _ A c (hB.below hb0)).mono ?_
    rintro e w1 ⟨rfl, hb1⟩
    have hk1 := (hk0.below hb1 (by simp)).alloc (.cells #[.int .u8 (t0.toNat : Int), .int .u8 (t1.toNat : Int), .int .u8 (t2.toNat : Int), .int .u8 (t3.toNat : Int), .int .u8 (t4.toNat : Int), .int .u8 (t5.toNat : Int), .int .u8 (t6.toNat : Int), .int .u8 (t7.toNat : Int)] 26)
    have ht1 := Holds.newAt w1 26 [.int .u8 (t0.toNat : Int), .int .u8 (t1.toNat : Int), .int .u8 (t2.toNat : Int), .int .u8 (t3.toNat : Int), .int .u8 (t4.toNat : Int), .int .u8 (t5.toNat : Int), .int .u8 (t6.toNat : Int), .int .u8 (t7.toNat : Int)] (n := w1.heap.size) rfl
    have hs1 := hb1.size
    simp at hs1
    have hbw : Below w.heap.size w (w1.alloc (.cells #[.int .u8 (t0.toNat : Int), .int .u8 (t1.toNat : Int), .int .u8 (t2.toNat : Int), .int .u8 (t3.toNat : Int), .int .u8 (t4.toNat : Int), .int .u8 (t5.toNat : Int), .int .u8 (t6.toNat : Int), .int .u8 (t7.toNat : Int)] 26)) := (hb0.trans (hb1.mono (by simp))).alloc (by omega) _
    have HS := Lib.hid (And.intro hk1.drew (And.intro ht1.drew (And.intro (hB.below hbw).drew hbw.drew)))
    clear hk1 ht1 hbw hk0 hB hb0 hb1 hs1
    clear hT
    go_wp2_with fail
    refine wp_region_till 29 (fun w' => Holds w' w.heap.size 23 [.int .u32 (W k.k0), .int .u32 (W k.k1), .int .u32 (W k.k2), .int .u32 (W k.k3), .int .u32 (W k.k4), .int .u32 (W k.k5), .int .u32 (W k.k6), .int .u32 (W k.k7)] ∧ Holds w' w1.heap.size 26 [.int .u8 (t0.toNat : Int), .int .u8 (t1.toNat : Int), .int .u8 (t2.toNat : Int), .int .u8 (t3.toNat : Int), .int .u8 (t4.toNat : Int), .int .u8 (t5.toNat : Int), .int .u8 (t6.toNat : Int), .int .u8 (t7.toNat : Int)] ∧ Bts w' A l ∧ Below w.heap.size w w') (fun _ => True) (by kernel_rfl) (HS.out) trivial ?_
    show Go_ _ _ _ _ _ _ _ _ _ _ (World.drew _)
    refine Go_.step (i := 0) (o := ⟨some 20, Op.call { callee := Callee.value (Operand.func 24), args := #[], argTypes := #[] }, 4, _, _, none⟩) (by kernel_rfl) rfl (fun K hT hK => ?_)
    replace hT := hT.1
    rw [if_pos (by rfl)]
    go_simp
    refine (told15 _).mono ?_
    rintro e w' ⟨rfl, hbx⟩
    refine hK.out _ _ (Till.of ⟨hT.1.below hbx hT.1.lt, hT.2.1.below hbx hT.2.1.lt, hT.2.2.1.below hbx, hT.2.2.2.trans (hbx.mono hT.2.2.2.size)⟩) ?_
    clear hT hK K
    refine Go_.take (i := 1) (oi := ⟨some 21, Op.move (Operand.tmp 20), 4, _, _, none⟩) (v := ?_) rfl (by kernel_rfl) (by kernel_rfl) (by kernel_rfl) rfl (fun _ _ _ h => h) (Or.inl ⟨by rfl, ?_⟩) ?_
    rotate_left; · intro w0 _; go_simp; try with_reducible rfl
    try simp only [Act.put, List.setIfInBounds_toArray, List.set_cons_zero, List.set_cons_succ]
    refine Go_.take (i := 2) (oi := ⟨some 22, Op.move (Operand.tmp 0), 22, _, _, some (1, true)⟩) (v := ?_) rfl (by kernel_rfl) (by kernel_rfl) (by kernel_rfl) rfl (fun _ _ _ h => h) (Or.inl ⟨by rfl, ?_⟩) ?_
    rotate_left; · intro w0 _; go_simp; try with_reducible rfl
    try simp only [Act.put, List.setIfInBounds_toArray, List.set_cons_zero, List.set_cons_succ]
    refine Go_.take (i := 3) (oi := ⟨some 23, Op.move (Operand.tmp 1), 22, _, _, some (1, true)⟩) (v := ?_) rfl (by kernel_rfl) (by kernel_rfl) (by kernel_rfl) rfl (fun _ _ _ h => h) (Or.inl ⟨by rfl, ?_⟩) ?_
    rotate_left; · intro w0 _; go_simp; try with_reducible rfl
    try simp only [Act.put, List.setIfInBounds_toArray, List.set_cons_zero, List.set_cons_succ]
    refine Go_.take (i := 4) (oi := ⟨some 24, Op.move (Operand.tmp 4), 24, _, _, some (1, true)⟩) (v := ?_) rfl (by kernel_rfl) (by kernel_rfl) (by kernel_rfl) rfl (fun _ _ _ h => h) (Or.inl ⟨by rfl, ?_⟩) ?_
    rotate_left; · intro w0 _; go_simp; try with_reducible rfl
    try simp only [Act.put, List.setIfInBounds_toArray, List.set_cons_zero, List.set_cons_succ]
    refine Go_.take (i := 6) (oi := ⟨some 26, Op.move (Operand.tmp 0), 22, _, _, some (1, true)⟩) (v := ?_) rfl (by kernel_rfl) (by kernel_rfl) (by kernel_rfl) rfl (fun _ _ _ h => h) (Or.inl ⟨by rfl, ?_⟩) ?_
    rotate_left; · intro w0 _; go_simp; try with_reducible rfl
    try simp only [Act.put, List.setIfInBounds_toArray, List.set_cons_zero, List.set_cons_succ]
    refine Go_.take (i := 7) (oi := ⟨some 27, Op.move (Operand.tmp 1), 22, _, _, some (1, true)⟩) (v := ?_) rfl (by kernel_rfl) (by kernel_rfl) (by kernel_rfl) rfl (fun _ _ _ h => h) (Or.inl ⟨by rfl, ?_⟩) ?_
    rotate_left; · intro w0 _; go_simp; try with_reducible rfl
    try simp only [Act.put, List.setIfInBounds_toArray, List.set_cons_zero, List.set_cons_succ]
    refine Go_.take (i := 8) (oi := ⟨some 28, Op.move (Operand.tmp 4), 24, _, _, some (1, true)⟩) (v := ?_) rfl (by kernel_rfl) (by kernel_rfl) (by kernel_rfl) rfl (fun _ _ _ h => h) (Or.inl ⟨by rfl, ?_⟩) ?_
    rotate_left; · intro w0 _; go_simp; try with_reducible rfl
    try simp only [Act.put, List.setIfInBounds_toArray, List.set_cons_zero, List.set_cons_succ]
    refine Go_.take (i := 9) (oi := ⟨some 29, Op.convert 24 9 (Operand.tmp 28), 9, _, _, some (1, true)⟩) (v := ?_) rfl (by kernel_rfl) (by kernel_rfl) (by kernel_rfl) rfl (fun _ _ _ h => h) (Or.inl ⟨by rfl, ?_⟩) ?_
    rotate_left; · intro w0 hS; obtain ⟨hH, hH2, hBB, hW⟩ := hS; have h8 := hH.eight; have h82 := hH2.eight; have hst : (convert 24 9 (.slice (some ⟨w1.heap.size, 0, none⟩) 8 8)).run Try.prog w0 = .ok (.string (mkStr [t0, t1, t2, t3, t4, t5, t6, t7])) w0 := run_str (Bts.of_holds (l := [t0, t1, t2, t3, t4, t5, t6, t7]) hH2) 8; go_simp; try with_reducible rfl
    try simp only [Act.put, List.setIfInBounds_toArray, List.set_cons_zero, List.set_cons_succ]
    refine Go_.step (i := 5) (o := ⟨some 25, Op.call { callee := Callee.value (Operand.func 26), args := #[Operand.tmp 22, Operand.tmp 23, Operand.tmp 24], argTypes := #[22, 22, 24] }, 22, _, _, some (1, true)⟩) (by kernel_rfl) rfl (fun K hT hK => ?_)
    replace hT := hT.1
    rw [if_pos (by rfl)]
    go_simp
    refine (sum_any r s A l c _ (by omega) hT.2.2.1).mono ?_
    rintro e w' ⟨rfl, rfl⟩
    refine hK.out _ _ (Till.of hT) ?_
    clear hT hK K
    refine Go_.step (i := 10) (o := ⟨some 30, Op.call { callee := Callee.value (Operand.func 27), args := #[Operand.tmp 26, Operand.tmp 27, Operand.tmp 29], argTypes := #[22, 22, 9] }, 22, _, _, some (1, true)⟩) (by kernel_rfl) rfl (fun K hT hK => ?_)
    replace hT := hT.1
    rw [if_pos (by rfl)]
    go_simp
    refine (rsum_mk r s l _ (by omega)).mono ?_
    rintro e w' ⟨rfl, rfl⟩
    refine hK.out _ _ (Till.of hT) ?_
    clear hT hK K
    refine Go_.take (i := 11) (oi := ⟨some 31, Op.binOp BinOp.eql 22 (Operand.tmp 25) (Operand.tmp 30) 22, 4, _, _, some (1, true)⟩) (v := ?_) rfl (by kernel_rfl) (by kernel_rfl) (by kernel_rfl) rfl (fun _ _ _ h => h) (Or.inl ⟨by rfl, ?_⟩) ?_
    rotate_left; · intro w0 _; go_simp; try with_reducible rfl
    try simp only [Act.put, List.setIfInBounds_toArray, List.set_cons_zero, List.set_cons_succ]
    refine Go_.take (i := 12) (oi := ⟨some 32, Op.pick (Operand.tmp 21) (Operand.tmp 31) (Operand.const (Value.bool false)), 4, _, _, none⟩) (v := ?_) rfl (by kernel_rfl) (by kernel_rfl) (by kernel_rfl) rfl (fun _ _ _ h => h) (Or.inl ⟨by rfl, ?_⟩) ?_
    rotate_left; · intro w0 _; go_simp; try with_reducible rfl
    try simp only [Act.put, List.setIfInBounds_toArray, List.set_cons_zero, List.set_cons_succ]
    refine Go_.take (i := 13) (oi := ⟨some 33, Op.move (Operand.tmp 32), 4, _, _, none⟩) (v := ?_) rfl (by kernel_rfl) (by kernel_rfl) (by kernel_rfl) rfl (fun _ _ _ h => h) (Or.inl ⟨by rfl, ?_⟩) ?_
    rotate_left; · intro w0 _; go_simp; try with_reducible rfl
    try simp only [Act.put, List.setIfInBounds_toArray, List.set_cons_zero, List.set_cons_succ]
    refine Go_.take (i := 14) (oi := ⟨some 34, Op.slice 26 (Operand.tmp 11) none none none, 24, _, _, some (13, true)⟩) (v := ?_) rfl (by kernel_rfl) (by kernel_rfl) (by kernel_rfl) rfl (fun _ _ _ h => h) (Or.inl ⟨by rfl, ?_⟩) ?_
    rotate_left; · intro w0 _; go_simp; try with_reducible rfl
    try simp only [Act.put, List.setIfInBounds_toArray, List.set_cons_zero, List.set_cons_succ]
    refine Go_.take (i := 15) (oi := ⟨some 35, Op.convert 24 9 (Operand.tmp 34), 9, _, _, some (13, true)⟩) (v := ?_) rfl (by kernel_rfl) (by kernel_rfl) (by kernel_rfl) rfl (fun _ _ _ h => h) (Or.inl ⟨by rfl, ?_⟩) ?_
    rotate_left; · intro w0 hS; obtain ⟨hH, hH2, hBB, hW⟩ := hS; have h8 := hH.eight; have h82 := hH2.eight; have hst : (convert 24 9 (.slice (some ⟨w1.heap.size, 0, none⟩) 8 8)).run Try.prog w0 = .ok (.string (mkStr [t0, t1, t2, t3, t4, t5, t6, t7])) w0 := run_str (Bts.of_holds (l := [t0, t1, t2, t3, t4, t5, t6, t7]) hH2) 8; go_simp; try with_reducible rfl
    try simp only [Act.put, List.setIfInBounds_toArray, List.set_cons_zero, List.set_cons_succ]
    refine Go_.take (i := 16) (oi := ⟨some 36, Op.load 23 (Operand.tmp 7), 23, _, _, some (13, true)⟩) (v := ?_) rfl (by kernel_rfl) (by kernel_rfl) (by kernel_rfl) rfl (fun _ _ _ h => h) (Or.inl ⟨by rfl, ?_⟩) ?_
    rotate_left; · intro w0 hS; obtain ⟨hH, hH2, hBB, hW⟩ := hS; have h8 := hH.eight; have h82 := hH2.eight; have hst : (convert 24 9 (.slice (some ⟨w1.heap.size, 0, none⟩) 8 8)).run Try.prog w0 = .ok (.string (mkStr [t0, t1, t2, t3, t4, t5, t6, t7])) w0 := run_str (Bts.of_holds (l := [t0, t1, t2, t3, t4, t5, t6, t7]) hH2) 8; go_simp; try with_reducible rfl
    try simp only [Act.put, List.setIfInBounds_toArray, List.set_cons_zero, List.set_cons_succ]
    refine Go_.take (i := 17) (oi := ⟨some 37, Op.move (Operand.tmp 3), 3, _, _, some (13, true)⟩) (v := ?_) rfl (by kernel_rfl) (by kernel_rfl) (by kernel_rfl) rfl (fun _ _ _ h => h) (Or.inl ⟨by rfl, ?_⟩) ?_
    rotate_left; · intro w0 _; go_simp; try with_reducible rfl
    try simp only [Act.put, List.setIfInBounds_toArray, List.set_cons_zero, List.set_cons_succ]
    refine Go_.take (i := 18) (oi := ⟨some 38, Op.move (Operand.tmp 4), 24, _, _, some (13, true)⟩) (v := ?_) rfl (by kernel_rfl) (by kernel_rfl) (by kernel_rfl) rfl (fun _ _ _ h => h) (Or.inl ⟨by rfl, ?_⟩) ?_
    rotate_left; · intro w0 _; go_simp; try with_reducible rfl
    try simp only [Act.put, List.setIfInBounds_toArray, List.set_cons_zero, List.set_cons_succ]
    refine Go_.take (i := 19) (oi := ⟨some 39, Op.convert 24 9 (Operand.tmp 38), 9, _, _, some (13, true)⟩) (v := ?_) rfl (by kernel_rfl) (by kernel_rfl) (by kernel_rfl) rfl (fun _ _ _ h => h) (Or.inl ⟨by rfl, ?_⟩) ?_
    rotate_left; · intro w0 hS; obtain ⟨hH, hH2, hBB, hW⟩ := hS; have h8 := hH.eight; have h82 := hH2.eight; have hst : (convert 24 9 (.slice (some ⟨w1.heap.size, 0, none⟩) 8 8)).run Try.prog w0 = .ok (.string (mkStr [t0, t1, t2, t3, t4, t5, t6, t7])) w0 := run_str (Bts.of_holds (l := [t0, t1, t2, t3, t4, t5, t6, t7]) hH2) 8; go_simp; try with_reducible rfl
    try simp only [Act.put, List.setIfInBounds_toArray, List.set_cons_zero, List.set_cons_succ]
    refine Go_.step (i := 20) (o := ⟨some 40, Op.call { callee := Callee.value (Operand.func 28), args := #[Operand.tmp 36, Operand.tmp 37, Operand.tmp 39], argTypes := #[32, 3, 9] }, 9, _, _, some (13, true)⟩) (by kernel_rfl) rfl (fun K hT hK => ?_)
    replace hT := hT.1
    rw [if_pos (by rfl)]
    go_simp
    refine (ta_rtag hTT hl2 _).mono ?_
    rintro e w' ⟨rfl, hbx⟩
    refine hK.out _ _ (Till.of ⟨hT.1.below hbx hT.1.lt, hT.2.1.below hbx hT.2.1.lt, hT.2.2.1.below hbx, hT.2.2.2.trans (hbx.mono hT.2.2.2.size)⟩) ?_
    clear hT hK K
    refine Go_.take (i := 21) (oi := ⟨some 41, Op.binOp BinOp.eql 9 (Operand.tmp 35) (Operand.tmp 40) 9, 4, _, _, some (13, true)⟩) (v := ?_) rfl (by kernel_rfl) (by kernel_rfl) (by kernel_rfl) rfl (fun _ _ _ h => h) (Or.inl ⟨by rfl, ?_⟩) ?_
    rotate_left; · intro w0 _; go_simp; try with_reducible rfl
    try simp only [Act.put, List.setIfInBounds_toArray, List.set_cons_zero, List.set_cons_succ]
    refine Go_.take (i := 22) (oi := ⟨some 42, Op.pick (Operand.tmp 33) (Operand.tmp 41) (Operand.const (Value.bool false)), 4, _, _, none⟩) (v := ?_) rfl (by kernel_rfl) (by kernel_rfl) (by kernel_rfl) rfl (fun _ _ _ h => h) (Or.inl ⟨by rfl, ?_⟩) ?_
    rotate_left; · intro w0 _; go_simp; try with_reducible rfl
    try simp only [Act.put, List.setIfInBounds_toArray, List.set_cons_zero, List.set_cons_succ]
    refine Go_.take (i := 23) (oi := ⟨some 43, Op.move (Operand.tmp 42), 4, _, _, none⟩) (v := ?_) rfl (by kernel_rfl) (by kernel_rfl) (by kernel_rfl) rfl (fun _ _ _ h => h) (Or.inl ⟨by rfl, ?_⟩) ?_
    rotate_left; · intro w0 _; go_simp; try with_reducible rfl
    try simp only [Act.put, List.setIfInBounds_toArray, List.set_cons_zero, List.set_cons_succ]
    refine Go_.take (i := 24) (oi := ⟨some 44, Op.load 26 (Operand.tmp 11), 26, _, _, some (23, true)⟩) (v := ?_) rfl (by kernel_rfl) (by kernel_rfl) (by kernel_rfl) rfl (fun _ _ _ h => h) (Or.inl ⟨by rfl, ?_⟩) ?_
    rotate_left; · intro w0 hS; obtain ⟨hH, hH2, hBB, hW⟩ := hS; have h8 := hH.eight; have h82 := hH2.eight; have hst : (convert 24 9 (.slice (some ⟨w1.heap.size, 0, none⟩) 8 8)).run Try.prog w0 = .ok (.string (mkStr [t0, t1, t2, t3, t4, t5, t6, t7])) w0 := run_str (Bts.of_holds (l := [t0, t1, t2, t3, t4, t5, t6, t7]) hH2) 8; go_simp; try with_reducible rfl
    try simp only [Act.put, List.setIfInBounds_toArray, List.set_cons_zero, List.set_cons_succ]
    refine Go_.take (i := 25) (oi := ⟨some 45, Op.load 26 (Operand.tmp 11), 26, _, _, some (23, true)⟩) (v := ?_) rfl (by kernel_rfl) (by kernel_rfl) (by kernel_rfl) rfl (fun _ _ _ h => h) (Or.inl ⟨by rfl, ?_⟩) ?_
    rotate_left; · intro w0 hS; obtain ⟨hH, hH2, hBB, hW⟩ := hS; have h8 := hH.eight; have h82 := hH2.eight; have hst : (convert 24 9 (.slice (some ⟨w1.heap.size, 0, none⟩) 8 8)).run Try.prog w0 = .ok (.string (mkStr [t0, t1, t2, t3, t4, t5, t6, t7])) w0 := run_str (Bts.of_holds (l := [t0, t1, t2, t3, t4, t5, t6, t7]) hH2) 8; go_simp; try with_reducible rfl
    try simp only [Act.put, List.setIfInBounds_toArray, List.set_cons_zero, List.set_cons_succ]
    refine Go_.step (i := 26) (o := ⟨some 46, Op.call { callee := Callee.value (Operand.func 29), args := #[Operand.tmp 44, Operand.tmp 45], argTypes := #[26, 26] }, 4, _, _, some (23, true)⟩) (by kernel_rfl) rfl (fun K hT hK => ?_)
    replace hT := hT.1
    rw [if_pos (by rfl)]
    go_simp
    refine (ta_same _ _ _ _ _ _ _ _ _).mono ?_
    rintro e w' ⟨rfl, hbx⟩
    have hfin := hT.2.2.2.trans (hbx.mono hT.2.2.2.size)
    refine hK.out _ _ (Till.of ⟨hT.1.below hbx hT.1.lt, hT.2.1.below hbx hT.2.1.lt, hT.2.2.1.below hbx, hT.2.2.2.trans (hbx.mono hT.2.2.2.size)⟩) ?_
    clear hT hK K
    refine Go_.take (i := 27) (oi := ⟨some 47, Op.pick (Operand.tmp 43) (Operand.tmp 46) (Operand.const (Value.bool false)), 4, _, _, none⟩) (v := ?_) rfl (by kernel_rfl) (by kernel_rfl) (by kernel_rfl) rfl (fun _ _ _ h => h) (Or.inl ⟨by rfl, ?_⟩) ?_
    rotate_left; · intro w0 _; go_simp; try with_reducible rfl
    try simp only [Act.put, List.setIfInBounds_toArray, List.set_cons_zero, List.set_cons_succ]
    refine Go_.take (i := 28) (oi := ⟨some 10, Op.assign (Operand.tmp 47), 4, _, _, none⟩) (v := ?_) rfl (by kernel_rfl) (by kernel_rfl) (by kernel_rfl) rfl (fun _ _ _ h => h) (Or.inl ⟨by rfl, ?_⟩) ?_
    rotate_left; · intro w0 _; go_simp; try with_reducible rfl
    try simp only [Act.put, List.setIfInBounds_toArray, List.set_cons_zero, List.set_cons_succ]
    refine Go_.done (by kernel_rfl) ?_
    go_wp2
    go_ret
    exact ⟨ret_boolA (by simp), hfin⟩
end Go.Proofs.Ytcdklmicbbcknaa
