/-
  lane.places and lane.Mix: what they come to, by a walk of their text.
-/
import Derived.Test.YtcdklmicbbcknaaLa
import Derived.Test.YtcdklmicbbcknaaRo
import Derived.Test.YtcdklmicbbcknaaMe
import Derived.Test.YtcdklmicbbcknaaGo
import Derived.Lib.Hide
namespace Go.Proofs.Ytcdklmicbbcknaa
open Go.RowKit
attribute [local go_sem] W_add W_sub bits_xor_W bits_or_W
def plc : List Value := [.int .i64 0, .int .i64 2, .int .i64 4, .int .i64 6, .int .i64 1, .int .i64 3, .int .i64 5, .int .i64 7, .int .i64 0, .int .i64 3, .int .i64 4, .int .i64 7, .int .i64 1, .int .i64 2, .int .i64 5, .int .i64 6]
theorem places_any (w : World) : Calls Try.prog 64 #[] w fun e w' => e = .returned (.slice (some ⟨w.heap.size, 0, none⟩) 4 4) ∧ w' = w.alloc (.cells plc.toArray 99) := by
  go_enter Try.func64, Try.ntmps64
  go_wp2
  go_ret
  exact ⟨rfl, rfl⟩
/-- what the walk is told of memory at the label: n rounds are done -/
def MixAt (k : K8) (w0 w : World) (n : Nat) : Prop :=
  n ≤ 4 ∧ Holds w w0.heap.size 28 (mxn (4 * n) k).vals ∧ Holds w (w0.heap.size + 1) 28 [.int .u32 0, .int .u32 0, .int .u32 0, .int .u32 0, .int .u32 0, .int .u32 0, .int .u32 0, .int .u32 0] ∧ Below w0.heap.size w0 w
def mixFr (w : World) (n : Nat) : List (Option Value) := none :: some (.pointer (some ⟨w.heap.size, 0, none⟩)) :: some (.pointer (some ⟨w.heap.size + 1, 0, none⟩)) :: some (.int .i64 n) :: List.replicate 61 none
set_option maxHeartbeats 4000000 in
theorem mix_any (k : K8) (w : World) : Calls Try.prog 41 #[.agg k.vals.toArray] w fun e w' => e = .returned (.agg (mix k).vals.toArray) ∧ Below w.heap.size w w' := by
  unfold K8.vals
  go_enter Try.func41, Try.ntmps41
  go_wp2
  refine wp_scope_back 0 (fun a' w' => ∃ n : Nat, MixAt k w w' n ∧ FrameIs (mixFr w n) a') (fun a' _ => (4 - intOf (a'.tmps.getD 3 undef)).toNat) rfl ?_ ?_
  · intro hp
    go_wp2
    go_step3
    rename_i hk
    refine hk _ _ ?_
    exact hp.out _ _ ⟨0, ⟨by omega, ((Holds.new w 28 _).alloc _), Holds.newAt _ 28 _ (by simp), ((Below.refl _ _).alloc (Nat.le_refl _) _).alloc (by simp) _⟩, ⟨rfl, rfl, rfl, trivial⟩, rfl⟩
  · rintro a' w1 ⟨n, ⟨hn, hk, hz, hb⟩, hf⟩
    refine pass_frame hf ?_
    intro u0 u4 u5 u6 u7 u8 u9 u10 u11 u12 u13 u14 u15 u16 u17 u18 u19 u20 u21 u22 u23 u24 u25 u26 u27 u28 u29 u30 u31 u32 u33 u34 u35 u36 u37 u38 u39 u40 u41 u42 u43 u44 u45 u46 u47 u48 u49 u50 u51 u52 u53 u54 u55 u56 u57 u58 u59 u60 u61 u62 u63 u64
    have hlt1 := hk.lt
    dsimp only [AllFit, List.replicate_zero]
    by_cases hlt : n < 4
    · go_wp2_with fail
      refine (places_any _).mono ?_
      rintro e w2 ⟨rfl, rfl⟩
      go_wp2_with fail
      have hg := Holds.newAt w1 99 plc rfl
      go_loopw [11] (fun i wr => ∃ j : Nat, j ≤ 4 ∧ i = .int .i64 j ∧ Holds wr w1.heap.size 99 plc ∧ Holds wr w.heap.size 28 (mxn (4 * n + j) k).vals ∧
          Holds wr (w.heap.size + 1) 28 [.int .u32 0, .int .u32 0, .int .u32 0, .int .u32 0, .int .u32 0, .int .u32 0, .int .u32 0, .int .u32 0] ∧ Below w.heap.size w wr) (fun i _ => 4 - (intOf i).toNat)
      case atStart => exact ⟨0, by omega, rfl, hg, hk.alloc _, hz.alloc _, hb.alloc (by omega) _⟩
      case round =>
        obtain ⟨j, hj, rfl, hg, hk, hz, hb⟩ := hrel
        by_cases hjlt : j < 4
        · have hne : wr.heap.size ≠ w.heap.size := by have := hk.lt; omega
          have hne1 : w1.heap.size ≠ w.heap.size := by have := hlt1; omega
          have hne2 : w.heap.size + 1 ≠ w.heap.size := by omega
          have hg4 := And.intro (hg.cell (4 * j)) (And.intro (hg.cell (4 * j + 1)) (And.intro (hg.cell (4 * j + 2)) (hg.cell (4 * j + 3))))
          obtain rfl | rfl | rfl | rfl : j = 0 ∨ j = 1 ∨ j = 2 ∨ j = 3 := by omega
          all_goals (simp only [plc, Nat.mul_zero, Nat.zero_add, Nat.reduceMul, Nat.reduceAdd, List.getElem?_cons_zero, List.getElem?_cons_succ] at hg4; obtain ⟨g0, g1, g2, g3⟩ := hg4)
          all_goals (go_wp2_with fail)
          all_goals
            refine wp_region_till 24 (fun w' => Holds w' wr.heap.size 99 _) (fun w' => Holds w' w.heap.size 28 _) (by kernel_rfl) (Holds.newAt wr 99 _ rfl) (hk.alloc _) ?_
            show Go_ _ _ _ _ _ _ _ _ _ _ (World.drew _)
            refine Go_.take (i := 0) (oi := ⟨some 16, Op.indexAddr 99 (Operand.tmp 5) (Operand.const (Value.int IntKind.i64 0)), 0, _, _, none⟩) (v := ?_) rfl (by kernel_rfl) (by kernel_rfl) (by kernel_rfl) rfl (fun _ _ _ h => h) (Or.inl ⟨by rfl, ?_⟩) ?_
            rotate_left; · intro w0 _; go_simp; try with_reducible rfl
            try simp only [Act.put, List.setIfInBounds_toArray, List.set_cons_zero, List.set_cons_succ]
            refine Go_.take (i := 1) (oi := ⟨some 17, Op.load 3 (Operand.tmp 16), 3, _, _, none⟩) (v := ?_) rfl (by kernel_rfl) (by kernel_rfl) (by kernel_rfl) rfl (fun _ _ _ h => h) (Or.inl ⟨by rfl, ?_⟩) ?_
            rotate_left; · intro w0 hS; obtain ⟨c0, c1, c2, c3⟩ := hS.four; go_simp; try with_reducible rfl
            try simp only [Act.put, List.setIfInBounds_toArray, List.set_cons_zero, List.set_cons_succ]
            refine Go_.take (i := 2) (oi := ⟨some 18, Op.indexAddr 99 (Operand.tmp 5) (Operand.const (Value.int IntKind.i64 1)), 0, _, _, none⟩) (v := ?_) rfl (by kernel_rfl) (by kernel_rfl) (by kernel_rfl) rfl (fun _ _ _ h => h) (Or.inl ⟨by rfl, ?_⟩) ?_
            rotate_left; · intro w0 _; go_simp; try with_reducible rfl
            try simp only [Act.put, List.setIfInBounds_toArray, List.set_cons_zero, List.set_cons_succ]
            refine Go_.take (i := 3) (oi := ⟨some 19, Op.load 3 (Operand.tmp 18), 3, _, _, none⟩) (v := ?_) rfl (by kernel_rfl) (by kernel_rfl) (by kernel_rfl) rfl (fun _ _ _ h => h) (Or.inl ⟨by rfl, ?_⟩) ?_
            rotate_left; · intro w0 hS; obtain ⟨c0, c1, c2, c3⟩ := hS.four; go_simp; try with_reducible rfl
            try simp only [Act.put, List.setIfInBounds_toArray, List.set_cons_zero, List.set_cons_succ]
            refine Go_.take (i := 4) (oi := ⟨some 20, Op.indexAddr 99 (Operand.tmp 5) (Operand.const (Value.int IntKind.i64 2)), 0, _, _, none⟩) (v := ?_) rfl (by kernel_rfl) (by kernel_rfl) (by kernel_rfl) rfl (fun _ _ _ h => h) (Or.inl ⟨by rfl, ?_⟩) ?_
            rotate_left; · intro w0 _; go_simp; try with_reducible rfl
            try simp only [Act.put, List.setIfInBounds_toArray, List.set_cons_zero, List.set_cons_succ]
            refine Go_.take (i := 5) (oi := ⟨some 21, Op.load 3 (Operand.tmp 20), 3, _, _, none⟩) (v := ?_) rfl (by kernel_rfl) (by kernel_rfl) (by kernel_rfl) rfl (fun _ _ _ h => h) (Or.inl ⟨by rfl, ?_⟩) ?_
            rotate_left; · intro w0 hS; obtain ⟨c0, c1, c2, c3⟩ := hS.four; go_simp; try with_reducible rfl
            try simp only [Act.put, List.setIfInBounds_toArray, List.set_cons_zero, List.set_cons_succ]
            refine Go_.take (i := 6) (oi := ⟨some 22, Op.indexAddr 99 (Operand.tmp 5) (Operand.const (Value.int IntKind.i64 3)), 0, _, _, none⟩) (v := ?_) rfl (by kernel_rfl) (by kernel_rfl) (by kernel_rfl) rfl (fun _ _ _ h => h) (Or.inl ⟨by rfl, ?_⟩) ?_
            rotate_left; · intro w0 _; go_simp; try with_reducible rfl
            try simp only [Act.put, List.setIfInBounds_toArray, List.set_cons_zero, List.set_cons_succ]
            refine Go_.take (i := 7) (oi := ⟨some 23, Op.load 3 (Operand.tmp 22), 3, _, _, none⟩) (v := ?_) rfl (by kernel_rfl) (by kernel_rfl) (by kernel_rfl) rfl (fun _ _ _ h => h) (Or.inl ⟨by rfl, ?_⟩) ?_
            rotate_left; · intro w0 hS; obtain ⟨c0, c1, c2, c3⟩ := hS.four; go_simp; try with_reducible rfl
            try simp only [Act.put, List.setIfInBounds_toArray, List.set_cons_zero, List.set_cons_succ]
            refine Go_.take (i := 8) (oi := ⟨some 24, Op.indexAddr 99 (Operand.tmp 5) (Operand.const (Value.int IntKind.i64 0)), 0, _, _, none⟩) (v := ?_) rfl (by kernel_rfl) (by kernel_rfl) (by kernel_rfl) rfl (fun _ _ _ h => h) (Or.inl ⟨by rfl, ?_⟩) ?_
            rotate_left; · intro w0 _; go_simp; try with_reducible rfl
            try simp only [Act.put, List.setIfInBounds_toArray, List.set_cons_zero, List.set_cons_succ]
            refine Go_.take (i := 9) (oi := ⟨some 25, Op.load 3 (Operand.tmp 24), 3, _, _, none⟩) (v := ?_) rfl (by kernel_rfl) (by kernel_rfl) (by kernel_rfl) rfl (fun _ _ _ h => h) (Or.inl ⟨by rfl, ?_⟩) ?_
            rotate_left; · intro w0 hS; obtain ⟨c0, c1, c2, c3⟩ := hS.four; go_simp; try with_reducible rfl
            try simp only [Act.put, List.setIfInBounds_toArray, List.set_cons_zero, List.set_cons_succ]
            refine Go_.take (i := 10) (oi := ⟨some 26, Op.indexAddr 28 (Operand.tmp 1) (Operand.tmp 25), 0, _, _, none⟩) (v := ?_) rfl (by kernel_rfl) (by kernel_rfl) (by kernel_rfl) rfl (fun _ _ _ h => h) (Or.inl ⟨by rfl, ?_⟩) ?_
            rotate_left; · intro w0 _; go_simp; try with_reducible rfl
            try simp only [Act.put, List.setIfInBounds_toArray, List.set_cons_zero, List.set_cons_succ]
            refine Go_.takeB (i := 11) (oi := ⟨some 27, Op.load 22 (Operand.tmp 26), 22, _, _, none⟩) (v := ?_) rfl (by kernel_rfl) (by kernel_rfl) (by kernel_rfl) rfl (by kernel_rfl) (fun _ _ _ h => h) (Or.inl ⟨by rfl, ?_⟩) ?_
            rotate_left; · intro w0 hS; obtain ⟨d0, d1, d2, d3, d4, d5, d6, d7⟩ := hS.2.eight; go_simp; try with_reducible rfl
            try simp only [Act.put, List.setIfInBounds_toArray, List.set_cons_zero, List.set_cons_succ]
            refine Go_.take (i := 12) (oi := ⟨some 28, Op.indexAddr 99 (Operand.tmp 5) (Operand.const (Value.int IntKind.i64 1)), 0, _, _, none⟩) (v := ?_) rfl (by kernel_rfl) (by kernel_rfl) (by kernel_rfl) rfl (fun _ _ _ h => h) (Or.inl ⟨by rfl, ?_⟩) ?_
            rotate_left; · intro w0 _; go_simp; try with_reducible rfl
            try simp only [Act.put, List.setIfInBounds_toArray, List.set_cons_zero, List.set_cons_succ]
            refine Go_.take (i := 13) (oi := ⟨some 29, Op.load 3 (Operand.tmp 28), 3, _, _, none⟩) (v := ?_) rfl (by kernel_rfl) (by kernel_rfl) (by kernel_rfl) rfl (fun _ _ _ h => h) (Or.inl ⟨by rfl, ?_⟩) ?_
            rotate_left; · intro w0 hS; obtain ⟨c0, c1, c2, c3⟩ := hS.four; go_simp; try with_reducible rfl
            try simp only [Act.put, List.setIfInBounds_toArray, List.set_cons_zero, List.set_cons_succ]
            refine Go_.take (i := 14) (oi := ⟨some 30, Op.indexAddr 28 (Operand.tmp 1) (Operand.tmp 29), 0, _, _, none⟩) (v := ?_) rfl (by kernel_rfl) (by kernel_rfl) (by kernel_rfl) rfl (fun _ _ _ h => h) (Or.inl ⟨by rfl, ?_⟩) ?_
            rotate_left; · intro w0 _; go_simp; try with_reducible rfl
            try simp only [Act.put, List.setIfInBounds_toArray, List.set_cons_zero, List.set_cons_succ]
            refine Go_.takeB (i := 15) (oi := ⟨some 31, Op.load 22 (Operand.tmp 30), 22, _, _, none⟩) (v := ?_) rfl (by kernel_rfl) (by kernel_rfl) (by kernel_rfl) rfl (by kernel_rfl) (fun _ _ _ h => h) (Or.inl ⟨by rfl, ?_⟩) ?_
            rotate_left; · intro w0 hS; obtain ⟨d0, d1, d2, d3, d4, d5, d6, d7⟩ := hS.2.eight; go_simp; try with_reducible rfl
            try simp only [Act.put, List.setIfInBounds_toArray, List.set_cons_zero, List.set_cons_succ]
            refine Go_.take (i := 16) (oi := ⟨some 32, Op.indexAddr 99 (Operand.tmp 5) (Operand.const (Value.int IntKind.i64 2)), 0, _, _, none⟩) (v := ?_) rfl (by kernel_rfl) (by kernel_rfl) (by kernel_rfl) rfl (fun _ _ _ h => h) (Or.inl ⟨by rfl, ?_⟩) ?_
            rotate_left; · intro w0 _; go_simp; try with_reducible rfl
            try simp only [Act.put, List.setIfInBounds_toArray, List.set_cons_zero, List.set_cons_succ]
            refine Go_.take (i := 17) (oi := ⟨some 33, Op.load 3 (Operand.tmp 32), 3, _, _, none⟩) (v := ?_) rfl (by kernel_rfl) (by kernel_rfl) (by kernel_rfl) rfl (fun _ _ _ h => h) (Or.inl ⟨by rfl, ?_⟩) ?_
            rotate_left; · intro w0 hS; obtain ⟨c0, c1, c2, c3⟩ := hS.four; go_simp; try with_reducible rfl
            try simp only [Act.put, List.setIfInBounds_toArray, List.set_cons_zero, List.set_cons_succ]
            refine Go_.take (i := 18) (oi := ⟨some 34, Op.indexAddr 28 (Operand.tmp 1) (Operand.tmp 33), 0, _, _, none⟩) (v := ?_) rfl (by kernel_rfl) (by kernel_rfl) (by kernel_rfl) rfl (fun _ _ _ h => h) (Or.inl ⟨by rfl, ?_⟩) ?_
            rotate_left; · intro w0 _; go_simp; try with_reducible rfl
            try simp only [Act.put, List.setIfInBounds_toArray, List.set_cons_zero, List.set_cons_succ]
            refine Go_.takeB (i := 19) (oi := ⟨some 35, Op.load 22 (Operand.tmp 34), 22, _, _, none⟩) (v := ?_) rfl (by kernel_rfl) (by kernel_rfl) (by kernel_rfl) rfl (by kernel_rfl) (fun _ _ _ h => h) (Or.inl ⟨by rfl, ?_⟩) ?_
            rotate_left; · intro w0 hS; obtain ⟨d0, d1, d2, d3, d4, d5, d6, d7⟩ := hS.2.eight; go_simp; try with_reducible rfl
            try simp only [Act.put, List.setIfInBounds_toArray, List.set_cons_zero, List.set_cons_succ]
            refine Go_.take (i := 20) (oi := ⟨some 36, Op.indexAddr 99 (Operand.tmp 5) (Operand.const (Value.int IntKind.i64 3)), 0, _, _, none⟩) (v := ?_) rfl (by kernel_rfl) (by kernel_rfl) (by kernel_rfl) rfl (fun _ _ _ h => h) (Or.inl ⟨by rfl, ?_⟩) ?_
            rotate_left; · intro w0 _; go_simp; try with_reducible rfl
            try simp only [Act.put, List.setIfInBounds_toArray, List.set_cons_zero, List.set_cons_succ]
            refine Go_.take (i := 21) (oi := ⟨some 37, Op.load 3 (Operand.tmp 36), 3, _, _, none⟩) (v := ?_) rfl (by kernel_rfl) (by kernel_rfl) (by kernel_rfl) rfl (fun _ _ _ h => h) (Or.inl ⟨by rfl, ?_⟩) ?_
            rotate_left; · intro w0 hS; obtain ⟨c0, c1, c2, c3⟩ := hS.four; go_simp; try with_reducible rfl
            try simp only [Act.put, List.setIfInBounds_toArray, List.set_cons_zero, List.set_cons_succ]
            refine Go_.take (i := 22) (oi := ⟨some 38, Op.indexAddr 28 (Operand.tmp 1) (Operand.tmp 37), 0, _, _, none⟩) (v := ?_) rfl (by kernel_rfl) (by kernel_rfl) (by kernel_rfl) rfl (fun _ _ _ h => h) (Or.inl ⟨by rfl, ?_⟩) ?_
            rotate_left; · intro w0 _; go_simp; try with_reducible rfl
            try simp only [Act.put, List.setIfInBounds_toArray, List.set_cons_zero, List.set_cons_succ]
            refine Go_.takeB (i := 23) (oi := ⟨some 39, Op.load 22 (Operand.tmp 38), 22, _, _, none⟩) (v := ?_) rfl (by kernel_rfl) (by kernel_rfl) (by kernel_rfl) rfl (by kernel_rfl) (fun _ _ _ h => h) (Or.inl ⟨by rfl, ?_⟩) ?_
            rotate_left; · intro w0 hS; obtain ⟨d0, d1, d2, d3, d4, d5, d6, d7⟩ := hS.2.eight; go_simp; try with_reducible rfl
            try simp only [Act.put, List.setIfInBounds_toArray, List.set_cons_zero, List.set_cons_succ]
            refine Go_.step (i := 24) (o := ⟨some 40, Op.call { callee := Callee.value (Operand.func 42), args := #[Operand.tmp 27, Operand.tmp 31, Operand.tmp 35, Operand.tmp 39], argTypes := #[22, 22, 22, 22] }, 65, _, _, none⟩) (by kernel_rfl) rfl (fun K hT hK => ?_)
            have hB := Holds.undrew (hT.2 (by kernel_rfl))
            have hB8 := hB.eight
            have hBf := hB.eightFree
            go_simp
            refine (quarter_any _ _ _ _ _).mono ?_
            rintro e w' ⟨rfl, rfl⟩
            refine hK.out _ _ (Till.late (by kernel_rfl) hT.1) ?_
            clear hT hK K
            refine Go_.take (i := 25) (oi := ⟨some 15, Op.move (Operand.tmp 40), 65, _, _, none⟩) (v := ?_) rfl (by kernel_rfl) (by kernel_rfl) (by kernel_rfl) rfl (fun _ _ _ h => h) (Or.inl ⟨by rfl, ?_⟩) ?_
            rotate_left; · intro w0 _; go_simp; try with_reducible rfl
            try simp only [Act.put, List.setIfInBounds_toArray, List.set_cons_zero, List.set_cons_succ]
            refine Go_.take (i := 26) (oi := ⟨some 41, Op.extract (Operand.tmp 15) 0, 22, _, _, none⟩) (v := ?_) rfl (by kernel_rfl) (by kernel_rfl) (by kernel_rfl) rfl (fun _ _ _ h => h) (Or.inl ⟨by rfl, ?_⟩) ?_
            rotate_left; · intro w0 _; go_simp; try with_reducible rfl
            try simp only [Act.put, List.setIfInBounds_toArray, List.set_cons_zero, List.set_cons_succ]
            refine Go_.take (i := 27) (oi := ⟨some 42, Op.extract (Operand.tmp 15) 1, 22, _, _, none⟩) (v := ?_) rfl (by kernel_rfl) (by kernel_rfl) (by kernel_rfl) rfl (fun _ _ _ h => h) (Or.inl ⟨by rfl, ?_⟩) ?_
            rotate_left; · intro w0 _; go_simp; try with_reducible rfl
            try simp only [Act.put, List.setIfInBounds_toArray, List.set_cons_zero, List.set_cons_succ]
            refine Go_.take (i := 28) (oi := ⟨some 43, Op.extract (Operand.tmp 15) 2, 22, _, _, none⟩) (v := ?_) rfl (by kernel_rfl) (by kernel_rfl) (by kernel_rfl) rfl (fun _ _ _ h => h) (Or.inl ⟨by rfl, ?_⟩) ?_
            rotate_left; · intro w0 _; go_simp; try with_reducible rfl
            try simp only [Act.put, List.setIfInBounds_toArray, List.set_cons_zero, List.set_cons_succ]
            refine Go_.take (i := 29) (oi := ⟨some 44, Op.extract (Operand.tmp 15) 3, 22, _, _, none⟩) (v := ?_) rfl (by kernel_rfl) (by kernel_rfl) (by kernel_rfl) rfl (fun _ _ _ h => h) (Or.inl ⟨by rfl, ?_⟩) ?_
            rotate_left; · intro w0 _; go_simp; try with_reducible rfl
            try simp only [Act.put, List.setIfInBounds_toArray, List.set_cons_zero, List.set_cons_succ]
            refine Go_.take (i := 30) (oi := ⟨some 45, Op.indexAddr 28 (Operand.tmp 1) (Operand.tmp 17), 0, _, _, none⟩) (v := ?_) rfl (by kernel_rfl) (by kernel_rfl) (by kernel_rfl) rfl (fun _ _ _ h => h) (Or.inl ⟨by rfl, ?_⟩) ?_
            rotate_left; · intro w0 _; go_simp; try with_reducible rfl
            try simp only [Act.put, List.setIfInBounds_toArray, List.set_cons_zero, List.set_cons_succ]
            refine Go_.step (i := 31) (o := ⟨none, Op.store 22 (Operand.tmp 45) (Operand.tmp 41), 0, _, _, none⟩) (by kernel_rfl) rfl (fun K hT hK => ?_)
            go_simp
            refine hK.out _ _ (Till.late (by kernel_rfl) (Holds.far (p := ⟨w.heap.size, _, none⟩) hT.1 hne _)) ?_
            clear hT hK K
            refine Go_.take (i := 32) (oi := ⟨some 46, Op.indexAddr 28 (Operand.tmp 1) (Operand.tmp 19), 0, _, _, none⟩) (v := ?_) rfl (by kernel_rfl) (by kernel_rfl) (by kernel_rfl) rfl (fun _ _ _ h => h) (Or.inl ⟨by rfl, ?_⟩) ?_
            rotate_left; · intro w0 _; go_simp; try with_reducible rfl
            try simp only [Act.put, List.setIfInBounds_toArray, List.set_cons_zero, List.set_cons_succ]
            refine Go_.step (i := 33) (o := ⟨none, Op.store 22 (Operand.tmp 46) (Operand.tmp 42), 0, _, _, none⟩) (by kernel_rfl) rfl (fun K hT hK => ?_)
            go_simp
            refine hK.out _ _ (Till.late (by kernel_rfl) (Holds.far (p := ⟨w.heap.size, _, none⟩) hT.1 hne _)) ?_
            clear hT hK K
            refine Go_.take (i := 34) (oi := ⟨some 47, Op.indexAddr 28 (Operand.tmp 1) (Operand.tmp 21), 0, _, _, none⟩) (v := ?_) rfl (by kernel_rfl) (by kernel_rfl) (by kernel_rfl) rfl (fun _ _ _ h => h) (Or.inl ⟨by rfl, ?_⟩) ?_
            rotate_left; · intro w0 _; go_simp; try with_reducible rfl
            try simp only [Act.put, List.setIfInBounds_toArray, List.set_cons_zero, List.set_cons_succ]
            refine Go_.step (i := 35) (o := ⟨none, Op.store 22 (Operand.tmp 47) (Operand.tmp 43), 0, _, _, none⟩) (by kernel_rfl) rfl (fun K hT hK => ?_)
            go_simp
            refine hK.out _ _ (Till.late (by kernel_rfl) (Holds.far (p := ⟨w.heap.size, _, none⟩) hT.1 hne _)) ?_
            clear hT hK K
            refine Go_.take (i := 36) (oi := ⟨some 48, Op.indexAddr 28 (Operand.tmp 1) (Operand.tmp 23), 0, _, _, none⟩) (v := ?_) rfl (by kernel_rfl) (by kernel_rfl) (by kernel_rfl) rfl (fun _ _ _ h => h) (Or.inl ⟨by rfl, ?_⟩) ?_
            rotate_left; · intro w0 _; go_simp; try with_reducible rfl
            try simp only [Act.put, List.setIfInBounds_toArray, List.set_cons_zero, List.set_cons_succ]
            refine Go_.step (i := 37) (o := ⟨none, Op.store 22 (Operand.tmp 48) (Operand.tmp 44), 0, _, _, none⟩) (by kernel_rfl) rfl (fun K hT hK => ?_)
            go_simp
            refine hK.out _ _ (Till.late (by kernel_rfl) (Holds.far (p := ⟨w.heap.size, _, none⟩) hT.1 hne _)) ?_
            clear hT hK K
            refine Go_.done (by kernel_rfl) ?_
            go_wp2
          · go_roundw
            case rel => exact ⟨1, by omega, by go_num, hg.quadFar hne1 _ _ _ _ _ _ _ _ _, hk.quad _ _ _ _ _ _ _ _ _ ((vals_mx0 _).trans (by rw [mxn_s0]; rfl)), hz.quadFar hne2 _ _ _ _ _ _ _ _ _, below_quad hb hb.size (Nat.le_refl _) _ _ _ _ _ _ _ _ _⟩
            case measure => simp [intOf]
          · go_roundw
            case rel => exact ⟨2, by omega, by go_num, hg.quadFar hne1 _ _ _ _ _ _ _ _ _, hk.quad _ _ _ _ _ _ _ _ _ ((vals_mx1 _).trans (by rw [mxn_s1])), hz.quadFar hne2 _ _ _ _ _ _ _ _ _, below_quad hb hb.size (Nat.le_refl _) _ _ _ _ _ _ _ _ _⟩
            case measure => simp [intOf]
          · go_roundw
            case rel => exact ⟨3, by omega, by go_num, hg.quadFar hne1 _ _ _ _ _ _ _ _ _, hk.quad _ _ _ _ _ _ _ _ _ ((vals_mx2 _).trans (by rw [mxn_s2])), hz.quadFar hne2 _ _ _ _ _ _ _ _ _, below_quad hb hb.size (Nat.le_refl _) _ _ _ _ _ _ _ _ _⟩
            case measure => simp [intOf]
          · go_roundw
            case rel => exact ⟨4, by omega, by go_num, hg.quadFar hne1 _ _ _ _ _ _ _ _ _, hk.quad _ _ _ _ _ _ _ _ _ ((vals_mx3 _).trans (by rw [mxn_s3])), hz.quadFar hne2 _ _ _ _ _ _ _ _ _, below_quad hb hb.size (Nat.le_refl _) _ _ _ _ _ _ _ _ _⟩
            case measure => simp [intOf]
        · obtain rfl : j = 4 := by omega
          go_wp2_with fail
          go_step3
          exact ⟨rfl, ⟨n + 1, ⟨by omega, hk, hz, hb⟩, ⟨rfl, rfl, by simp, trivial⟩, rfl⟩, by simp [intOf]; omega⟩
    · obtain rfl : n = 4 := by omega
      have k8 := hk.eight
      have kf := hk.eightFree
      have z8 := hz.eight
      have zf := hz.eightFree
      go_wp2_with fail
      refine wp_loop_rounds 9 ?_
      iterate 9 (rw [rounds_succ]; go_wp2)
      simp only [Exit.jump]
      refine bodyPost_ret (v := .agg (mix k).vals.toArray) (by simp [results, Try.results41, go_sem, z8]; exact vals_addw _) rfl ⟨rfl, ?_⟩
      repeat (refine Below.setCell ?_ (by simp) _)
      exact hb
end Go.Proofs.Ytcdklmicbbcknaa
