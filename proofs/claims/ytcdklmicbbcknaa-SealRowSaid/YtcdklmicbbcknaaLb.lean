/-
  lane.Back: what it comes to, by a walk of its text.
-/
import Derived.Test.YtcdklmicbbcknaaLm
namespace Go.Proofs.Ytcdklmicbbcknaa
open Go.RowKit
attribute [local go_sem] W_add W_sub bits_xor_W bits_or_W
set_option maxHeartbeats 4000000 in
theorem kback_any (k : K8) (w : World) : Calls Try.prog 50 #[.agg k.vals.toArray] w fun e w' => e = .returned (.agg (back k).vals.toArray) ∧ Below w.heap.size w w' := by
  unfold K8.vals
  go_enter Try.func50, Try.ntmps50
  go_wp2
  refine wp_loop_rounds 9 ?_
  iterate 9 (rw [rounds_succ]; go_wp2_with fail)
  refine (places_any _).mono ?_
  rintro e w2 ⟨rfl, rfl⟩
  go_wp2_with fail
  have hk0 : Holds (((w.alloc (.cells (subw k).vals.toArray 28)).alloc (.cells ([.int .u32 0, .int .u32 0, .int .u32 0, .int .u32 0, .int .u32 0, .int .u32 0, .int .u32 0, .int .u32 0] : List Value).toArray 28)).alloc (.cells plc.toArray 99)) w.heap.size 28 (bkr (4 * 0) (subw k)).vals := ((Holds.new w 28 _).alloc _).alloc _
  have hz0 : Holds (((w.alloc (.cells (subw k).vals.toArray 28)).alloc (.cells ([.int .u32 0, .int .u32 0, .int .u32 0, .int .u32 0, .int .u32 0, .int .u32 0, .int .u32 0, .int .u32 0] : List Value).toArray 28)).alloc (.cells plc.toArray 99)) (w.heap.size + 1) 28 [.int .u32 0, .int .u32 0, .int .u32 0, .int .u32 0, .int .u32 0, .int .u32 0, .int .u32 0, .int .u32 0] := (Holds.newAt _ 28 _ (by simp)).alloc _
  have hg0 : Holds (((w.alloc (.cells (subw k).vals.toArray 28)).alloc (.cells ([.int .u32 0, .int .u32 0, .int .u32 0, .int .u32 0, .int .u32 0, .int .u32 0, .int .u32 0, .int .u32 0] : List Value).toArray 28)).alloc (.cells plc.toArray 99)) (w.heap.size + 1 + 1) 99 plc := Holds.newAt _ 99 _ (by simp)
  have hb0 : Below w.heap.size w (((w.alloc (.cells (subw k).vals.toArray 28)).alloc (.cells ([.int .u32 0, .int .u32 0, .int .u32 0, .int .u32 0, .int .u32 0, .int .u32 0, .int .u32 0, .int .u32 0] : List Value).toArray 28)).alloc (.cells plc.toArray 99)) := (((Below.refl _ _).alloc (Nat.le_refl _) _).alloc (by simp) _).alloc (by simp; omega) _
  rw [← vals_subw k] at hk0 hz0 hg0 hb0
  have hne1 : w.heap.size + 1 + 1 ≠ w.heap.size := by omega
  have hne2 : w.heap.size + 1 ≠ w.heap.size := by omega
  go_loopw [20] (fun v wr => ∃ m : Nat, m ≤ 4 ∧ v = .int .i64 m ∧ Holds wr (w.heap.size + 1 + 1) 99 plc ∧ Holds wr w.heap.size 28 (bkr (4 * m) (subw k)).vals ∧ Holds wr (w.heap.size + 1) 28 [.int .u32 0, .int .u32 0, .int .u32 0, .int .u32 0, .int .u32 0, .int .u32 0, .int .u32 0, .int .u32 0] ∧ Below w.heap.size w wr) (fun v _ => 4 - (intOf v).toNat)
  case atStart => exact ⟨0, by omega, rfl, hg0, hk0, hz0, hb0⟩
  case round =>
    clear hk0 hz0 hg0 hb0
    obtain ⟨m, hm, rfl, hg, hk, hz, hb⟩ := hrel
    by_cases hmlt : m < 4
    · have hmd : decide ((m : Int) < 4) = true := by simp; omega
      go_wp2_with fail
      obtain ⟨wo, rfl⟩ : ∃ wo : World, wo = wr := ⟨_, rfl⟩
      go_loopw [5] (fun v wr => ∃ j : Nat, j ≤ 4 ∧ v = .int .i64 (3 - j) ∧ Holds wr (w.heap.size + 1 + 1) 99 plc ∧ Holds wr w.heap.size 28 (bkr (4 * m + j) (subw k)).vals ∧ Holds wr (w.heap.size + 1) 28 [.int .u32 0, .int .u32 0, .int .u32 0, .int .u32 0, .int .u32 0, .int .u32 0, .int .u32 0, .int .u32 0] ∧ Below w.heap.size w wr) (fun v _ => (intOf v + 1).toNat)
      case atStart => exact ⟨0, by omega, rfl, hg, hk, hz, hb⟩
      case round =>
        obtain ⟨j, hj, rfl, hg, hk, hz, hb⟩ := hrel
        by_cases hjlt : j < 4
        · have hne : wr.heap.size ≠ w.heap.size := by have := hk.lt; omega
          have hg4 := And.intro (hg.cell (4 * (3 - j))) (And.intro (hg.cell (4 * (3 - j) + 1)) (And.intro (hg.cell (4 * (3 - j) + 2)) (hg.cell (4 * (3 - j) + 3))))
          obtain rfl | rfl | rfl | rfl : j = 0 ∨ j = 1 ∨ j = 2 ∨ j = 3 := by omega
          all_goals (simp only [plc, Nat.mul_zero, Nat.zero_add, Nat.reduceMul, Nat.reduceSub, Nat.reduceAdd, Nat.sub_self, Nat.sub_zero, List.getElem?_cons_zero, List.getElem?_cons_succ] at hg4; obtain ⟨g0, g1, g2, g3⟩ := hg4)
          all_goals (go_wp2_with fail)
          all_goals
            refine wp_region_till 24 (fun w' => Holds w' wr.heap.size 99 _) (fun w' => Holds w' w.heap.size 28 _) (by kernel_rfl) (Holds.newAt wr 99 _ rfl) (hk.alloc _) ?_
            show Go_ _ _ _ _ _ _ _ _ _ _ (World.drew _)
            refine Go_.take (i := 0) (oi := ⟨some 34, Op.indexAddr 99 (Operand.tmp 6) (Operand.const (Value.int IntKind.i64 0)), 0, _, _, none⟩) (v := ?_) rfl (by kernel_rfl) (by kernel_rfl) (by kernel_rfl) rfl (fun _ _ _ h => h) (Or.inl ⟨by rfl, ?_⟩) ?_
            rotate_left; · intro w0 _; go_simp; try with_reducible rfl
            try simp only [Act.put, List.setIfInBounds_toArray, List.set_cons_zero, List.set_cons_succ]
            refine Go_.take (i := 1) (oi := ⟨some 35, Op.load 3 (Operand.tmp 34), 3, _, _, none⟩) (v := ?_) rfl (by kernel_rfl) (by kernel_rfl) (by kernel_rfl) rfl (fun _ _ _ h => h) (Or.inl ⟨by rfl, ?_⟩) ?_
            rotate_left; · intro w0 hS; obtain ⟨c0, c1, c2, c3⟩ := hS.four; go_simp; try with_reducible rfl
            try simp only [Act.put, List.setIfInBounds_toArray, List.set_cons_zero, List.set_cons_succ]
            refine Go_.take (i := 2) (oi := ⟨some 36, Op.indexAddr 99 (Operand.tmp 6) (Operand.const (Value.int IntKind.i64 1)), 0, _, _, none⟩) (v := ?_) rfl (by kernel_rfl) (by kernel_rfl) (by kernel_rfl) rfl (fun _ _ _ h => h) (Or.inl ⟨by rfl, ?_⟩) ?_
            rotate_left; · intro w0 _; go_simp; try with_reducible rfl
            try simp only [Act.put, List.setIfInBounds_toArray, List.set_cons_zero, List.set_cons_succ]
            refine Go_.take (i := 3) (oi := ⟨some 37, Op.load 3 (Operand.tmp 36), 3, _, _, none⟩) (v := ?_) rfl (by kernel_rfl) (by kernel_rfl) (by kernel_rfl) rfl (fun _ _ _ h => h) (Or.inl ⟨by rfl, ?_⟩) ?_
            rotate_left; · intro w0 hS; obtain ⟨c0, c1, c2, c3⟩ := hS.four; go_simp; try with_reducible rfl
            try simp only [Act.put, List.setIfInBounds_toArray, List.set_cons_zero, List.set_cons_succ]
            refine Go_.take (i := 4) (oi := ⟨some 38, Op.indexAddr 99 (Operand.tmp 6) (Operand.const (Value.int IntKind.i64 2)), 0, _, _, none⟩) (v := ?_) rfl (by kernel_rfl) (by kernel_rfl) (by kernel_rfl) rfl (fun _ _ _ h => h) (Or.inl ⟨by rfl, ?_⟩) ?_
            rotate_left; · intro w0 _; go_simp; try with_reducible rfl
            try simp only [Act.put, List.setIfInBounds_toArray, List.set_cons_zero, List.set_cons_succ]
            refine Go_.take (i := 5) (oi := ⟨some 39, Op.load 3 (Operand.tmp 38), 3, _, _, none⟩) (v := ?_) rfl (by kernel_rfl) (by kernel_rfl) (by kernel_rfl) rfl (fun _ _ _ h => h) (Or.inl ⟨by rfl, ?_⟩) ?_
            rotate_left; · intro w0 hS; obtain ⟨c0, c1, c2, c3⟩ := hS.four; go_simp; try with_reducible rfl
            try simp only [Act.put, List.setIfInBounds_toArray, List.set_cons_zero, List.set_cons_succ]
            refine Go_.take (i := 6) (oi := ⟨some 40, Op.indexAddr 99 (Operand.tmp 6) (Operand.const (Value.int IntKind.i64 3)), 0, _, _, none⟩) (v := ?_) rfl (by kernel_rfl) (by kernel_rfl) (by kernel_rfl) rfl (fun _ _ _ h => h) (Or.inl ⟨by rfl, ?_⟩) ?_
            rotate_left; · intro w0 _; go_simp; try with_reducible rfl
            try simp only [Act.put, List.setIfInBounds_toArray, List.set_cons_zero, List.set_cons_succ]
            refine Go_.take (i := 7) (oi := ⟨some 41, Op.load 3 (Operand.tmp 40), 3, _, _, none⟩) (v := ?_) rfl (by kernel_rfl) (by kernel_rfl) (by kernel_rfl) rfl (fun _ _ _ h => h) (Or.inl ⟨by rfl, ?_⟩) ?_
            rotate_left; · intro w0 hS; obtain ⟨c0, c1, c2, c3⟩ := hS.four; go_simp; try with_reducible rfl
            try simp only [Act.put, List.setIfInBounds_toArray, List.set_cons_zero, List.set_cons_succ]
            refine Go_.take (i := 8) (oi := ⟨some 42, Op.indexAddr 99 (Operand.tmp 6) (Operand.const (Value.int IntKind.i64 0)), 0, _, _, none⟩) (v := ?_) rfl (by kernel_rfl) (by kernel_rfl) (by kernel_rfl) rfl (fun _ _ _ h => h) (Or.inl ⟨by rfl, ?_⟩) ?_
            rotate_left; · intro w0 _; go_simp; try with_reducible rfl
            try simp only [Act.put, List.setIfInBounds_toArray, List.set_cons_zero, List.set_cons_succ]
            refine Go_.take (i := 9) (oi := ⟨some 43, Op.load 3 (Operand.tmp 42), 3, _, _, none⟩) (v := ?_) rfl (by kernel_rfl) (by kernel_rfl) (by kernel_rfl) rfl (fun _ _ _ h => h) (Or.inl ⟨by rfl, ?_⟩) ?_
            rotate_left; · intro w0 hS; obtain ⟨c0, c1, c2, c3⟩ := hS.four; go_simp; try with_reducible rfl
            try simp only [Act.put, List.setIfInBounds_toArray, List.set_cons_zero, List.set_cons_succ]
            refine Go_.take (i := 10) (oi := ⟨some 44, Op.indexAddr 28 (Operand.tmp 1) (Operand.tmp 43), 0, _, _, none⟩) (v := ?_) rfl (by kernel_rfl) (by kernel_rfl) (by kernel_rfl) rfl (fun _ _ _ h => h) (Or.inl ⟨by rfl, ?_⟩) ?_
            rotate_left; · intro w0 _; go_simp; try with_reducible rfl
            try simp only [Act.put, List.setIfInBounds_toArray, List.set_cons_zero, List.set_cons_succ]
            refine Go_.takeB (i := 11) (oi := ⟨some 45, Op.load 22 (Operand.tmp 44), 22, _, _, none⟩) (v := ?_) rfl (by kernel_rfl) (by kernel_rfl) (by kernel_rfl) rfl (by kernel_rfl) (fun _ _ _ h => h) (Or.inl ⟨by rfl, ?_⟩) ?_
            rotate_left; · intro w0 hS; obtain ⟨d0, d1, d2, d3, d4, d5, d6, d7⟩ := hS.2.eight; go_simp; try with_reducible rfl
            try simp only [Act.put, List.setIfInBounds_toArray, List.set_cons_zero, List.set_cons_succ]
            refine Go_.take (i := 12) (oi := ⟨some 46, Op.indexAddr 99 (Operand.tmp 6) (Operand.const (Value.int IntKind.i64 1)), 0, _, _, none⟩) (v := ?_) rfl (by kernel_rfl) (by kernel_rfl) (by kernel_rfl) rfl (fun _ _ _ h => h) (Or.inl ⟨by rfl, ?_⟩) ?_
            rotate_left; · intro w0 _; go_simp; try with_reducible rfl
            try simp only [Act.put, List.setIfInBounds_toArray, List.set_cons_zero, List.set_cons_succ]
            refine Go_.take (i := 13) (oi := ⟨some 47, Op.load 3 (Operand.tmp 46), 3, _, _, none⟩) (v := ?_) rfl (by kernel_rfl) (by kernel_rfl) (by kernel_rfl) rfl (fun _ _ _ h => h) (Or.inl ⟨by rfl, ?_⟩) ?_
            rotate_left; · intro w0 hS; obtain ⟨c0, c1, c2, c3⟩ := hS.four; go_simp; try with_reducible rfl
            try simp only [Act.put, List.setIfInBounds_toArray, List.set_cons_zero, List.set_cons_succ]
            refine Go_.take (i := 14) (oi := ⟨some 48, Op.indexAddr 28 (Operand.tmp 1) (Operand.tmp 47), 0, _, _, none⟩) (v := ?_) rfl (by kernel_rfl) (by kernel_rfl) (by kernel_rfl) rfl (fun _ _ _ h => h) (Or.inl ⟨by rfl, ?_⟩) ?_
            rotate_left; · intro w0 _; go_simp; try with_reducible rfl
            try simp only [Act.put, List.setIfInBounds_toArray, List.set_cons_zero, List.set_cons_succ]
            refine Go_.takeB (i := 15) (oi := ⟨some 49, Op.load 22 (Operand.tmp 48), 22, _, _, none⟩) (v := ?_) rfl (by kernel_rfl) (by kernel_rfl) (by kernel_rfl) rfl (by kernel_rfl) (fun _ _ _ h => h) (Or.inl ⟨by rfl, ?_⟩) ?_
            rotate_left; · intro w0 hS; obtain ⟨d0, d1, d2, d3, d4, d5, d6, d7⟩ := hS.2.eight; go_simp; try with_reducible rfl
            try simp only [Act.put, List.setIfInBounds_toArray, List.set_cons_zero, List.set_cons_succ]
            refine Go_.take (i := 16) (oi := ⟨some 50, Op.indexAddr 99 (Operand.tmp 6) (Operand.const (Value.int IntKind.i64 2)), 0, _, _, none⟩) (v := ?_) rfl (by kernel_rfl) (by kernel_rfl) (by kernel_rfl) rfl (fun _ _ _ h => h) (Or.inl ⟨by rfl, ?_⟩) ?_
            rotate_left; · intro w0 _; go_simp; try with_reducible rfl
            try simp only [Act.put, List.setIfInBounds_toArray, List.set_cons_zero, List.set_cons_succ]
            refine Go_.take (i := 17) (oi := ⟨some 51, Op.load 3 (Operand.tmp 50), 3, _, _, none⟩) (v := ?_) rfl (by kernel_rfl) (by kernel_rfl) (by kernel_rfl) rfl (fun _ _ _ h => h) (Or.inl ⟨by rfl, ?_⟩) ?_
            rotate_left; · intro w0 hS; obtain ⟨c0, c1, c2, c3⟩ := hS.four; go_simp; try with_reducible rfl
            try simp only [Act.put, List.setIfInBounds_toArray, List.set_cons_zero, List.set_cons_succ]
            refine Go_.take (i := 18) (oi := ⟨some 52, Op.indexAddr 28 (Operand.tmp 1) (Operand.tmp 51), 0, _, _, none⟩) (v := ?_) rfl (by kernel_rfl) (by kernel_rfl) (by kernel_rfl) rfl (fun _ _ _ h => h) (Or.inl ⟨by rfl, ?_⟩) ?_
            rotate_left; · intro w0 _; go_simp; try with_reducible rfl
            try simp only [Act.put, List.setIfInBounds_toArray, List.set_cons_zero, List.set_cons_succ]
            refine Go_.takeB (i := 19) (oi := ⟨some 53, Op.load 22 (Operand.tmp 52), 22, _, _, none⟩) (v := ?_) rfl (by kernel_rfl) (by kernel_rfl) (by kernel_rfl) rfl (by kernel_rfl) (fun _ _ _ h => h) (Or.inl ⟨by rfl, ?_⟩) ?_
            rotate_left; · intro w0 hS; obtain ⟨d0, d1, d2, d3, d4, d5, d6, d7⟩ := hS.2.eight; go_simp; try with_reducible rfl
            try simp only [Act.put, List.setIfInBounds_toArray, List.set_cons_zero, List.set_cons_succ]
            refine Go_.take (i := 20) (oi := ⟨some 54, Op.indexAddr 99 (Operand.tmp 6) (Operand.const (Value.int IntKind.i64 3)), 0, _, _, none⟩) (v := ?_) rfl (by kernel_rfl) (by kernel_rfl) (by kernel_rfl) rfl (fun _ _ _ h => h) (Or.inl ⟨by rfl, ?_⟩) ?_
            rotate_left; · intro w0 _; go_simp; try with_reducible rfl
            try simp only [Act.put, List.setIfInBounds_toArray, List.set_cons_zero, List.set_cons_succ]
            refine Go_.take (i := 21) (oi := ⟨some 55, Op.load 3 (Operand.tmp 54), 3, _, _, none⟩) (v := ?_) rfl (by kernel_rfl) (by kernel_rfl) (by kernel_rfl) rfl (fun _ _ _ h => h) (Or.inl ⟨by rfl, ?_⟩) ?_
            rotate_left; · intro w0 hS; obtain ⟨c0, c1, c2, c3⟩ := hS.four; go_simp; try with_reducible rfl
            try simp only [Act.put, List.setIfInBounds_toArray, List.set_cons_zero, List.set_cons_succ]
            refine Go_.take (i := 22) (oi := ⟨some 56, Op.indexAddr 28 (Operand.tmp 1) (Operand.tmp 55), 0, _, _, none⟩) (v := ?_) rfl (by kernel_rfl) (by kernel_rfl) (by kernel_rfl) rfl (fun _ _ _ h => h) (Or.inl ⟨by rfl, ?_⟩) ?_
            rotate_left; · intro w0 _; go_simp; try with_reducible rfl
            try simp only [Act.put, List.setIfInBounds_toArray, List.set_cons_zero, List.set_cons_succ]
            refine Go_.takeB (i := 23) (oi := ⟨some 57, Op.load 22 (Operand.tmp 56), 22, _, _, none⟩) (v := ?_) rfl (by kernel_rfl) (by kernel_rfl) (by kernel_rfl) rfl (by kernel_rfl) (fun _ _ _ h => h) (Or.inl ⟨by rfl, ?_⟩) ?_
            rotate_left; · intro w0 hS; obtain ⟨d0, d1, d2, d3, d4, d5, d6, d7⟩ := hS.2.eight; go_simp; try with_reducible rfl
            try simp only [Act.put, List.setIfInBounds_toArray, List.set_cons_zero, List.set_cons_succ]
            refine Go_.step (i := 24) (o := ⟨some 58, Op.call { callee := Callee.value (Operand.func 68), args := #[Operand.tmp 45, Operand.tmp 49, Operand.tmp 53, Operand.tmp 57], argTypes := #[22, 22, 22, 22] }, 65, _, _, none⟩) (by kernel_rfl) rfl (fun K hT hK => ?_)
            have hB := Holds.undrew (hT.2 (by kernel_rfl))
            have hB8 := hB.eight
            have hBf := hB.eightFree
            go_simp
            refine (back_any _ _ _ _ _).mono ?_
            rintro e w' ⟨rfl, rfl⟩
            refine hK.out _ _ (Till.late (by kernel_rfl) hT.1) ?_
            clear hT hK K
            refine Go_.take (i := 25) (oi := ⟨some 33, Op.move (Operand.tmp 58), 65, _, _, none⟩) (v := ?_) rfl (by kernel_rfl) (by kernel_rfl) (by kernel_rfl) rfl (fun _ _ _ h => h) (Or.inl ⟨by rfl, ?_⟩) ?_
            rotate_left; · intro w0 _; go_simp; try with_reducible rfl
            try simp only [Act.put, List.setIfInBounds_toArray, List.set_cons_zero, List.set_cons_succ]
            refine Go_.take (i := 26) (oi := ⟨some 59, Op.extract (Operand.tmp 33) 0, 22, _, _, none⟩) (v := ?_) rfl (by kernel_rfl) (by kernel_rfl) (by kernel_rfl) rfl (fun _ _ _ h => h) (Or.inl ⟨by rfl, ?_⟩) ?_
            rotate_left; · intro w0 _; go_simp; try with_reducible rfl
            try simp only [Act.put, List.setIfInBounds_toArray, List.set_cons_zero, List.set_cons_succ]
            refine Go_.take (i := 27) (oi := ⟨some 60, Op.extract (Operand.tmp 33) 1, 22, _, _, none⟩) (v := ?_) rfl (by kernel_rfl) (by kernel_rfl) (by kernel_rfl) rfl (fun _ _ _ h => h) (Or.inl ⟨by rfl, ?_⟩) ?_
            rotate_left; · intro w0 _; go_simp; try with_reducible rfl
            try simp only [Act.put, List.setIfInBounds_toArray, List.set_cons_zero, List.set_cons_succ]
            refine Go_.take (i := 28) (oi := ⟨some 61, Op.extract (Operand.tmp 33) 2, 22, _, _, none⟩) (v := ?_) rfl (by kernel_rfl) (by kernel_rfl) (by kernel_rfl) rfl (fun _ _ _ h => h) (Or.inl ⟨by rfl, ?_⟩) ?_
            rotate_left; · intro w0 _; go_simp; try with_reducible rfl
            try simp only [Act.put, List.setIfInBounds_toArray, List.set_cons_zero, List.set_cons_succ]
            refine Go_.take (i := 29) (oi := ⟨some 62, Op.extract (Operand.tmp 33) 3, 22, _, _, none⟩) (v := ?_) rfl (by kernel_rfl) (by kernel_rfl) (by kernel_rfl) rfl (fun _ _ _ h => h) (Or.inl ⟨by rfl, ?_⟩) ?_
            rotate_left; · intro w0 _; go_simp; try with_reducible rfl
            try simp only [Act.put, List.setIfInBounds_toArray, List.set_cons_zero, List.set_cons_succ]
            refine Go_.take (i := 30) (oi := ⟨some 63, Op.indexAddr 28 (Operand.tmp 1) (Operand.tmp 35), 0, _, _, none⟩) (v := ?_) rfl (by kernel_rfl) (by kernel_rfl) (by kernel_rfl) rfl (fun _ _ _ h => h) (Or.inl ⟨by rfl, ?_⟩) ?_
            rotate_left; · intro w0 _; go_simp; try with_reducible rfl
            try simp only [Act.put, List.setIfInBounds_toArray, List.set_cons_zero, List.set_cons_succ]
            refine Go_.step (i := 31) (o := ⟨none, Op.store 22 (Operand.tmp 63) (Operand.tmp 59), 0, _, _, none⟩) (by kernel_rfl) rfl (fun K hT hK => ?_)
            go_simp
            refine hK.out _ _ (Till.late (by kernel_rfl) (Holds.far (p := ⟨w.heap.size, _, none⟩) hT.1 hne _)) ?_
            clear hT hK K
            refine Go_.take (i := 32) (oi := ⟨some 64, Op.indexAddr 28 (Operand.tmp 1) (Operand.tmp 37), 0, _, _, none⟩) (v := ?_) rfl (by kernel_rfl) (by kernel_rfl) (by kernel_rfl) rfl (fun _ _ _ h => h) (Or.inl ⟨by rfl, ?_⟩) ?_
            rotate_left; · intro w0 _; go_simp; try with_reducible rfl
            try simp only [Act.put, List.setIfInBounds_toArray, List.set_cons_zero, List.set_cons_succ]
            refine Go_.step (i := 33) (o := ⟨none, Op.store 22 (Operand.tmp 64) (Operand.tmp 60), 0, _, _, none⟩) (by kernel_rfl) rfl (fun K hT hK => ?_)
            go_simp
            refine hK.out _ _ (Till.late (by kernel_rfl) (Holds.far (p := ⟨w.heap.size, _, none⟩) hT.1 hne _)) ?_
            clear hT hK K
            refine Go_.take (i := 34) (oi := ⟨some 65, Op.indexAddr 28 (Operand.tmp 1) (Operand.tmp 39), 0, _, _, none⟩) (v := ?_) rfl (by kernel_rfl) (by kernel_rfl) (by kernel_rfl) rfl (fun _ _ _ h => h) (Or.inl ⟨by rfl, ?_⟩) ?_
            rotate_left; · intro w0 _; go_simp; try with_reducible rfl
            try simp only [Act.put, List.setIfInBounds_toArray, List.set_cons_zero, List.set_cons_succ]
            refine Go_.step (i := 35) (o := ⟨none, Op.store 22 (Operand.tmp 65) (Operand.tmp 61), 0, _, _, none⟩) (by kernel_rfl) rfl (fun K hT hK => ?_)
            go_simp
            refine hK.out _ _ (Till.late (by kernel_rfl) (Holds.far (p := ⟨w.heap.size, _, none⟩) hT.1 hne _)) ?_
            clear hT hK K
            refine Go_.take (i := 36) (oi := ⟨some 66, Op.indexAddr 28 (Operand.tmp 1) (Operand.tmp 41), 0, _, _, none⟩) (v := ?_) rfl (by kernel_rfl) (by kernel_rfl) (by kernel_rfl) rfl (fun _ _ _ h => h) (Or.inl ⟨by rfl, ?_⟩) ?_
            rotate_left; · intro w0 _; go_simp; try with_reducible rfl
            try simp only [Act.put, List.setIfInBounds_toArray, List.set_cons_zero, List.set_cons_succ]
            refine Go_.step (i := 37) (o := ⟨none, Op.store 22 (Operand.tmp 66) (Operand.tmp 62), 0, _, _, none⟩) (by kernel_rfl) rfl (fun K hT hK => ?_)
            go_simp
            refine hK.out _ _ (Till.late (by kernel_rfl) (Holds.far (p := ⟨w.heap.size, _, none⟩) hT.1 hne _)) ?_
            clear hT hK K
            refine Go_.done (by kernel_rfl) ?_
            go_wp2
          · go_roundw
            case rel => exact ⟨1, by omega, by go_num, hg.quadFar hne1 _ _ _ _ _ _ _ _ _, hk.quad _ _ _ _ _ _ _ _ _ ((vals_bk3 _).trans (by rw [bkr_s0]; rfl)), hz.quadFar hne2 _ _ _ _ _ _ _ _ _, below_quad hb hb.size (Nat.le_refl _) _ _ _ _ _ _ _ _ _⟩
            case measure => simp [intOf]
          · go_roundw
            case rel => exact ⟨2, by omega, by go_num, hg.quadFar hne1 _ _ _ _ _ _ _ _ _, hk.quad _ _ _ _ _ _ _ _ _ ((vals_bk2 _).trans (by rw [bkr_s1])), hz.quadFar hne2 _ _ _ _ _ _ _ _ _, below_quad hb hb.size (Nat.le_refl _) _ _ _ _ _ _ _ _ _⟩
            case measure => simp [intOf]
          · go_roundw
            case rel => exact ⟨3, by omega, by go_num, hg.quadFar hne1 _ _ _ _ _ _ _ _ _, hk.quad _ _ _ _ _ _ _ _ _ ((vals_bk1 _).trans (by rw [bkr_s2])), hz.quadFar hne2 _ _ _ _ _ _ _ _ _, below_quad hb hb.size (Nat.le_refl _) _ _ _ _ _ _ _ _ _⟩
            case measure => simp [intOf]
          · go_roundw
            case rel => exact ⟨4, by omega, by go_num, hg.quadFar hne1 _ _ _ _ _ _ _ _ _, hk.quad _ _ _ _ _ _ _ _ _ ((vals_bk0 _).trans (by rw [bkr_s3])), hz.quadFar hne2 _ _ _ _ _ _ _ _ _, below_quad hb hb.size (Nat.le_refl _) _ _ _ _ _ _ _ _ _⟩
            case measure => simp [intOf]
        · obtain rfl : j = 4 := by omega
          go_wp2_with fail
          go_roundw
          case rel => exact ⟨m + 1, by omega, by go_num, hg, hk, hz, hb⟩
          case measure => simp [intOf]; omega
    · obtain rfl : m = 4 := by omega
      have z8 := hz.eight
      have zf := hz.eightFree
      have k8 := hk.eight
      go_wp2_with fail
      refine bodyPost_ret (v := .agg (back k).vals.toArray) (by simp [results, Try.results50, go_sem, z8]; rfl) rfl ⟨rfl, ?_⟩
      repeat (refine Below.setCell ?_ (by simp) _)
      exact hb
end Go.Proofs.Ytcdklmicbbcknaa
