/-
  the reference: rows and Mix: what they come to, by a walk of their text.
-/
import Derived.Test.YtcdklmicbbcknaaLm
namespace Go.Proofs.Ytcdklmicbbcknaa
open Go.RowKit
attribute [local go_sem] W_add W_sub bits_xor_W bits_or_W
theorem vals_addr (k : K8) : [Value.int IntKind.u32 ((W k.k0 + 1) % 4294967296), Value.int IntKind.u32 ((W k.k1 + 1 + 1) % 4294967296), Value.int IntKind.u32 ((W k.k2 + 2 + 1) % 4294967296), Value.int IntKind.u32 ((W k.k3 + 3 + 1) % 4294967296),
    Value.int IntKind.u32 ((W k.k4 + 4 + 1) % 4294967296), Value.int IntKind.u32 ((W k.k5 + 5 + 1) % 4294967296), Value.int IntKind.u32 ((W k.k6 + 6 + 1) % 4294967296), Value.int IntKind.u32 ((W k.k7 + 7 + 1) % 4294967296)] = (addw k).vals := by
  rw [← vals_addw]; simp only [Int.add_assoc]; rfl
theorem mxn_r0 (n : Nat) (k : K8) (h : n % 4 = 0) : mxn (n + 1) k = mx0 (mxn n k) := by
  show mxs n _ = _
  unfold mxs; rw [h]; rfl
theorem mxn_r1 (n : Nat) (k : K8) (h : n % 4 = 1) : mxn (n + 1) k = mx1 (mxn n k) := by
  show mxs n _ = _
  unfold mxs; rw [h]; rfl
theorem mxn_r2 (n : Nat) (k : K8) (h : n % 4 = 2) : mxn (n + 1) k = mx2 (mxn n k) := by
  show mxs n _ = _
  unfold mxs; rw [h]; rfl
theorem mxn_r3 (n : Nat) (k : K8) (h : n % 4 = 3) : mxn (n + 1) k = mx3 (mxn n k) := by
  show mxs n _ = _
  unfold mxs; rw [h]; rfl
section
variable {w w' : World} {g : Nat} {t : TypeId} {cs : List Value}
theorem Holds.quad0Far (h : Holds w g t cs) {b : Nat} (hne : g ≠ b) (i0 i1 i2 i3 : Nat) (v0 v1 v2 v3 : Value) :
    Holds ((((w.setCell ⟨b, i0, none⟩ v0).setCell ⟨b, i1, none⟩ v1).setCell ⟨b, i2, none⟩ v2).setCell ⟨b, i3, none⟩ v3).drew g t cs :=
  (((h.far (p := ⟨b, i0, none⟩) hne v0).far (p := ⟨b, i1, none⟩) hne v1).far (p := ⟨b, i2, none⟩) hne v2).far (p := ⟨b, i3, none⟩) hne v3
theorem Holds.quad0 (h : Holds w g t cs) (i0 i1 i2 i3 : Nat) (v0 v1 v2 v3 : Value) {cs' : List Value} (hcs : (((cs.set i0 v0).set i1 v1).set i2 v2).set i3 v3 = cs') :
    Holds ((((w.setCell ⟨g, i0, none⟩ v0).setCell ⟨g, i1, none⟩ v1).setCell ⟨g, i2, none⟩ v2).setCell ⟨g, i3, none⟩ v3).drew g t cs' :=
  hcs ▸ (((h.set i0 v0).set i1 v1).set i2 v2).set i3 v3
theorem below_quad0 {B : Nat} {w0 : World} (h : Below B w0 w) {b : Nat} (hb : B ≤ b) (i0 i1 i2 i3 : Nat) (v0 v1 v2 v3 : Value) :
    Below B w0 ((((w.setCell ⟨b, i0, none⟩ v0).setCell ⟨b, i1, none⟩ v1).setCell ⟨b, i2, none⟩ v2).setCell ⟨b, i3, none⟩ v3).drew :=
  ((((h.setCell (p := ⟨b, i0, none⟩) hb v0).setCell (p := ⟨b, i1, none⟩) hb v1).setCell (p := ⟨b, i2, none⟩) hb v2).setCell (p := ⟨b, i3, none⟩) hb v3).drew
end
theorem rows_any (w : World) : Calls Try.prog 67 #[] w fun e w' => e = .returned (.slice (some ⟨w.heap.size + 4, 0, none⟩) 4 4) ∧ Holds w' w.heap.size 3 [.int .i64 0, .int .i64 2, .int .i64 4, .int .i64 6] ∧ Holds w' (w.heap.size + 1) 3 [.int .i64 1, .int .i64 3, .int .i64 5, .int .i64 7] ∧ Holds w' (w.heap.size + 2) 3 [.int .i64 0, .int .i64 3, .int .i64 4, .int .i64 7] ∧ Holds w' (w.heap.size + 3) 3 [.int .i64 1, .int .i64 2, .int .i64 5, .int .i64 6] ∧
    Holds w' (w.heap.size + 4) 62 [.slice (some ⟨w.heap.size, 0, none⟩) 4 4, .slice (some ⟨w.heap.size + 1, 0, none⟩) 4 4, .slice (some ⟨w.heap.size + 2, 0, none⟩) 4 4, .slice (some ⟨w.heap.size + 3, 0, none⟩) 4 4] ∧ Below w.heap.size w w' := by
  go_enter Try.func67, Try.ntmps67
  go_wp2
  go_ret
  exact ⟨rfl, ((((Holds.new w 3 _).alloc _).alloc _).alloc _).alloc _, (((Holds.newAt _ 3 _ (by simp)).alloc _).alloc _).alloc _, ((Holds.newAt _ 3 _ (by simp)).alloc _).alloc _, (Holds.newAt _ 3 _ (by simp)).alloc _, Holds.newAt _ 62 _ (by simp),
    (((((Below.refl _ _).alloc (Nat.le_refl _) _).alloc (by simp) _).alloc (by simp; omega) _).alloc (by simp; omega) _).alloc (by simp; omega) _⟩
set_option maxHeartbeats 4000000 in
theorem rmix_any (k : K8) (w : World) : Calls Try.prog 45 #[.agg k.vals.toArray] w fun e w' => e = .returned (.agg (mix k).vals.toArray) ∧ Below w.heap.size w w' := by
  unfold K8.vals
  go_enter Try.func45, Try.ntmps45
  go_wp2
  have hne2 : w.heap.size + 1 ≠ w.heap.size := by omega
  go_loopw [3] (fun i wr => ∃ n : Nat, n ≤ 16 ∧ i = .int .i64 n ∧ Holds wr w.heap.size 32 (mxn n k).vals ∧
      Holds wr (w.heap.size + 1) 32 [.int .u32 0, .int .u32 0, .int .u32 0, .int .u32 0, .int .u32 0, .int .u32 0, .int .u32 0, .int .u32 0] ∧ Below w.heap.size w wr) (fun i _ => 16 - (intOf i).toNat)
  case atStart => exact ⟨0, by omega, rfl, (Holds.new w 32 _).alloc _, Holds.newAt _ 32 _ (by simp), ((Below.refl _ _).alloc (Nat.le_refl _) _).alloc (by simp) _⟩
  case round =>
    obtain ⟨n, hn, rfl, hk, hz, hb⟩ := hrel
    by_cases hlt : n < 16
    · go_wp2_with fail
      refine (rows_any _).mono ?_
      rintro e w2 ⟨rfl, hr0, hr1, hr2, hr3, hr, hbw⟩
      have hk2 := hk.below hbw hk.lt
      have hz2 := hz.below hbw hz.lt
      have hb2 := hb.trans (hbw.mono (Nat.le_of_lt hk.lt))
      have hne : wr.heap.size ≠ w.heap.size := by have := hk.lt; omega
      have hr4 := hr.four
      obtain hc | hc | hc | hc : n % 4 = 0 ∨ n % 4 = 1 ∨ n % 4 = 2 ∨ n % 4 = 3 := by omega
      · have hmod : (n : Int) % 4 = 0 := by omega
        have hA := hr0
        have hne : wr.heap.size ≠ w.heap.size := by have := hk.lt; omega
        clear hr1 hr2 hr3
        go_wp2_with fail
        refine wp_region_till 32 (fun w' => Holds w' _ 3 _) (fun w' => Holds w' w.heap.size 32 _) (by kernel_rfl) hA hk2 ?_
        show Go_ _ _ _ _ _ _ _ _ _ _ (World.drew _)
        refine Go_.take (i := 0) (oi := ⟨some 16, Op.move (Operand.tmp 4), 62, _, _, none⟩) (v := ?_) rfl (by kernel_rfl) (by kernel_rfl) (by kernel_rfl) rfl (fun _ _ _ h => h) (Or.inl ⟨by rfl, ?_⟩) ?_
        rotate_left; · intro w0 _; go_simp; try with_reducible rfl
        try simp only [Act.put, List.setIfInBounds_toArray, List.set_cons_zero, List.set_cons_succ]
        refine Go_.take (i := 1) (oi := ⟨some 17, Op.indexAddr 62 (Operand.tmp 16) (Operand.const (Value.int IntKind.i64 0)), 0, _, _, none⟩) (v := ?_) rfl (by kernel_rfl) (by kernel_rfl) (by kernel_rfl) rfl (fun _ _ _ h => h) (Or.inl ⟨by rfl, ?_⟩) ?_
        rotate_left; · intro w0 _; go_simp; try with_reducible rfl
        try simp only [Act.put, List.setIfInBounds_toArray, List.set_cons_zero, List.set_cons_succ]
        refine Go_.take (i := 2) (oi := ⟨some 18, Op.load 3 (Operand.tmp 17), 3, _, _, none⟩) (v := ?_) rfl (by kernel_rfl) (by kernel_rfl) (by kernel_rfl) rfl (fun _ _ _ h => h) (Or.inl ⟨by rfl, ?_⟩) ?_
        rotate_left; · intro w0 hS; obtain ⟨c0, c1, c2, c3⟩ := hS.four; go_simp; try with_reducible rfl
        try simp only [Act.put, List.setIfInBounds_toArray, List.set_cons_zero, List.set_cons_succ]
        refine Go_.take (i := 3) (oi := ⟨some 19, Op.move (Operand.tmp 4), 62, _, _, none⟩) (v := ?_) rfl (by kernel_rfl) (by kernel_rfl) (by kernel_rfl) rfl (fun _ _ _ h => h) (Or.inl ⟨by rfl, ?_⟩) ?_
        rotate_left; · intro w0 _; go_simp; try with_reducible rfl
        try simp only [Act.put, List.setIfInBounds_toArray, List.set_cons_zero, List.set_cons_succ]
        refine Go_.take (i := 4) (oi := ⟨some 20, Op.indexAddr 62 (Operand.tmp 19) (Operand.const (Value.int IntKind.i64 1)), 0, _, _, none⟩) (v := ?_) rfl (by kernel_rfl) (by kernel_rfl) (by kernel_rfl) rfl (fun _ _ _ h => h) (Or.inl ⟨by rfl, ?_⟩) ?_
        rotate_left; · intro w0 _; go_simp; try with_reducible rfl
        try simp only [Act.put, List.setIfInBounds_toArray, List.set_cons_zero, List.set_cons_succ]
        refine Go_.take (i := 5) (oi := ⟨some 21, Op.load 3 (Operand.tmp 20), 3, _, _, none⟩) (v := ?_) rfl (by kernel_rfl) (by kernel_rfl) (by kernel_rfl) rfl (fun _ _ _ h => h) (Or.inl ⟨by rfl, ?_⟩) ?_
        rotate_left; · intro w0 hS; obtain ⟨c0, c1, c2, c3⟩ := hS.four; go_simp; try with_reducible rfl
        try simp only [Act.put, List.setIfInBounds_toArray, List.set_cons_zero, List.set_cons_succ]
        refine Go_.take (i := 6) (oi := ⟨some 22, Op.move (Operand.tmp 4), 62, _, _, none⟩) (v := ?_) rfl (by kernel_rfl) (by kernel_rfl) (by kernel_rfl) rfl (fun _ _ _ h => h) (Or.inl ⟨by rfl, ?_⟩) ?_
        rotate_left; · intro w0 _; go_simp; try with_reducible rfl
        try simp only [Act.put, List.setIfInBounds_toArray, List.set_cons_zero, List.set_cons_succ]
        refine Go_.take (i := 7) (oi := ⟨some 23, Op.indexAddr 62 (Operand.tmp 22) (Operand.const (Value.int IntKind.i64 2)), 0, _, _, none⟩) (v := ?_) rfl (by kernel_rfl) (by kernel_rfl) (by kernel_rfl) rfl (fun _ _ _ h => h) (Or.inl ⟨by rfl, ?_⟩) ?_
        rotate_left; · intro w0 _; go_simp; try with_reducible rfl
        try simp only [Act.put, List.setIfInBounds_toArray, List.set_cons_zero, List.set_cons_succ]
        refine Go_.take (i := 8) (oi := ⟨some 24, Op.load 3 (Operand.tmp 23), 3, _, _, none⟩) (v := ?_) rfl (by kernel_rfl) (by kernel_rfl) (by kernel_rfl) rfl (fun _ _ _ h => h) (Or.inl ⟨by rfl, ?_⟩) ?_
        rotate_left; · intro w0 hS; obtain ⟨c0, c1, c2, c3⟩ := hS.four; go_simp; try with_reducible rfl
        try simp only [Act.put, List.setIfInBounds_toArray, List.set_cons_zero, List.set_cons_succ]
        refine Go_.take (i := 9) (oi := ⟨some 25, Op.move (Operand.tmp 4), 62, _, _, none⟩) (v := ?_) rfl (by kernel_rfl) (by kernel_rfl) (by kernel_rfl) rfl (fun _ _ _ h => h) (Or.inl ⟨by rfl, ?_⟩) ?_
        rotate_left; · intro w0 _; go_simp; try with_reducible rfl
        try simp only [Act.put, List.setIfInBounds_toArray, List.set_cons_zero, List.set_cons_succ]
        refine Go_.take (i := 10) (oi := ⟨some 26, Op.indexAddr 62 (Operand.tmp 25) (Operand.const (Value.int IntKind.i64 3)), 0, _, _, none⟩) (v := ?_) rfl (by kernel_rfl) (by kernel_rfl) (by kernel_rfl) rfl (fun _ _ _ h => h) (Or.inl ⟨by rfl, ?_⟩) ?_
        rotate_left; · intro w0 _; go_simp; try with_reducible rfl
        try simp only [Act.put, List.setIfInBounds_toArray, List.set_cons_zero, List.set_cons_succ]
        refine Go_.take (i := 11) (oi := ⟨some 27, Op.load 3 (Operand.tmp 26), 3, _, _, none⟩) (v := ?_) rfl (by kernel_rfl) (by kernel_rfl) (by kernel_rfl) rfl (fun _ _ _ h => h) (Or.inl ⟨by rfl, ?_⟩) ?_
        rotate_left; · intro w0 hS; obtain ⟨c0, c1, c2, c3⟩ := hS.four; go_simp; try with_reducible rfl
        try simp only [Act.put, List.setIfInBounds_toArray, List.set_cons_zero, List.set_cons_succ]
        refine Go_.take (i := 12) (oi := ⟨some 28, Op.move (Operand.tmp 4), 62, _, _, none⟩) (v := ?_) rfl (by kernel_rfl) (by kernel_rfl) (by kernel_rfl) rfl (fun _ _ _ h => h) (Or.inl ⟨by rfl, ?_⟩) ?_
        rotate_left; · intro w0 _; go_simp; try with_reducible rfl
        try simp only [Act.put, List.setIfInBounds_toArray, List.set_cons_zero, List.set_cons_succ]
        refine Go_.take (i := 13) (oi := ⟨some 29, Op.indexAddr 62 (Operand.tmp 28) (Operand.const (Value.int IntKind.i64 0)), 0, _, _, none⟩) (v := ?_) rfl (by kernel_rfl) (by kernel_rfl) (by kernel_rfl) rfl (fun _ _ _ h => h) (Or.inl ⟨by rfl, ?_⟩) ?_
        rotate_left; · intro w0 _; go_simp; try with_reducible rfl
        try simp only [Act.put, List.setIfInBounds_toArray, List.set_cons_zero, List.set_cons_succ]
        refine Go_.take (i := 14) (oi := ⟨some 30, Op.load 3 (Operand.tmp 29), 3, _, _, none⟩) (v := ?_) rfl (by kernel_rfl) (by kernel_rfl) (by kernel_rfl) rfl (fun _ _ _ h => h) (Or.inl ⟨by rfl, ?_⟩) ?_
        rotate_left; · intro w0 hS; obtain ⟨c0, c1, c2, c3⟩ := hS.four; go_simp; try with_reducible rfl
        try simp only [Act.put, List.setIfInBounds_toArray, List.set_cons_zero, List.set_cons_succ]
        refine Go_.take (i := 15) (oi := ⟨some 31, Op.indexAddr 32 (Operand.tmp 1) (Operand.tmp 30), 0, _, _, none⟩) (v := ?_) rfl (by kernel_rfl) (by kernel_rfl) (by kernel_rfl) rfl (fun _ _ _ h => h) (Or.inl ⟨by rfl, ?_⟩) ?_
        rotate_left; · intro w0 _; go_simp; try with_reducible rfl
        try simp only [Act.put, List.setIfInBounds_toArray, List.set_cons_zero, List.set_cons_succ]
        refine Go_.takeB (i := 16) (oi := ⟨some 32, Op.load 22 (Operand.tmp 31), 22, _, _, none⟩) (v := ?_) rfl (by kernel_rfl) (by kernel_rfl) (by kernel_rfl) rfl (by kernel_rfl) (fun _ _ _ h => h) (Or.inl ⟨by rfl, ?_⟩) ?_
        rotate_left; · intro w0 hS; obtain ⟨d0, d1, d2, d3, d4, d5, d6, d7⟩ := hS.2.eight; go_simp; try with_reducible rfl
        try simp only [Act.put, List.setIfInBounds_toArray, List.set_cons_zero, List.set_cons_succ]
        refine Go_.take (i := 17) (oi := ⟨some 33, Op.move (Operand.tmp 4), 62, _, _, none⟩) (v := ?_) rfl (by kernel_rfl) (by kernel_rfl) (by kernel_rfl) rfl (fun _ _ _ h => h) (Or.inl ⟨by rfl, ?_⟩) ?_
        rotate_left; · intro w0 _; go_simp; try with_reducible rfl
        try simp only [Act.put, List.setIfInBounds_toArray, List.set_cons_zero, List.set_cons_succ]
        refine Go_.take (i := 18) (oi := ⟨some 34, Op.indexAddr 62 (Operand.tmp 33) (Operand.const (Value.int IntKind.i64 1)), 0, _, _, none⟩) (v := ?_) rfl (by kernel_rfl) (by kernel_rfl) (by kernel_rfl) rfl (fun _ _ _ h => h) (Or.inl ⟨by rfl, ?_⟩) ?_
        rotate_left; · intro w0 _; go_simp; try with_reducible rfl
        try simp only [Act.put, List.setIfInBounds_toArray, List.set_cons_zero, List.set_cons_succ]
        refine Go_.take (i := 19) (oi := ⟨some 35, Op.load 3 (Operand.tmp 34), 3, _, _, none⟩) (v := ?_) rfl (by kernel_rfl) (by kernel_rfl) (by kernel_rfl) rfl (fun _ _ _ h => h) (Or.inl ⟨by rfl, ?_⟩) ?_
        rotate_left; · intro w0 hS; obtain ⟨c0, c1, c2, c3⟩ := hS.four; go_simp; try with_reducible rfl
        try simp only [Act.put, List.setIfInBounds_toArray, List.set_cons_zero, List.set_cons_succ]
        refine Go_.take (i := 20) (oi := ⟨some 36, Op.indexAddr 32 (Operand.tmp 1) (Operand.tmp 35), 0, _, _, none⟩) (v := ?_) rfl (by kernel_rfl) (by kernel_rfl) (by kernel_rfl) rfl (fun _ _ _ h => h) (Or.inl ⟨by rfl, ?_⟩) ?_
        rotate_left; · intro w0 _; go_simp; try with_reducible rfl
        try simp only [Act.put, List.setIfInBounds_toArray, List.set_cons_zero, List.set_cons_succ]
        refine Go_.takeB (i := 21) (oi := ⟨some 37, Op.load 22 (Operand.tmp 36), 22, _, _, none⟩) (v := ?_) rfl (by kernel_rfl) (by kernel_rfl) (by kernel_rfl) rfl (by kernel_rfl) (fun _ _ _ h => h) (Or.inl ⟨by rfl, ?_⟩) ?_
        rotate_left; · intro w0 hS; obtain ⟨d0, d1, d2, d3, d4, d5, d6, d7⟩ := hS.2.eight; go_simp; try with_reducible rfl
        try simp only [Act.put, List.setIfInBounds_toArray, List.set_cons_zero, List.set_cons_succ]
        refine Go_.take (i := 22) (oi := ⟨some 38, Op.move (Operand.tmp 4), 62, _, _, none⟩) (v := ?_) rfl (by kernel_rfl) (by kernel_rfl) (by kernel_rfl) rfl (fun _ _ _ h => h) (Or.inl ⟨by rfl, ?_⟩) ?_
        rotate_left; · intro w0 _; go_simp; try with_reducible rfl
        try simp only [Act.put, List.setIfInBounds_toArray, List.set_cons_zero, List.set_cons_succ]
        refine Go_.take (i := 23) (oi := ⟨some 39, Op.indexAddr 62 (Operand.tmp 38) (Operand.const (Value.int IntKind.i64 2)), 0, _, _, none⟩) (v := ?_) rfl (by kernel_rfl) (by kernel_rfl) (by kernel_rfl) rfl (fun _ _ _ h => h) (Or.inl ⟨by rfl, ?_⟩) ?_
        rotate_left; · intro w0 _; go_simp; try with_reducible rfl
        try simp only [Act.put, List.setIfInBounds_toArray, List.set_cons_zero, List.set_cons_succ]
        refine Go_.take (i := 24) (oi := ⟨some 40, Op.load 3 (Operand.tmp 39), 3, _, _, none⟩) (v := ?_) rfl (by kernel_rfl) (by kernel_rfl) (by kernel_rfl) rfl (fun _ _ _ h => h) (Or.inl ⟨by rfl, ?_⟩) ?_
        rotate_left; · intro w0 hS; obtain ⟨c0, c1, c2, c3⟩ := hS.four; go_simp; try with_reducible rfl
        try simp only [Act.put, List.setIfInBounds_toArray, List.set_cons_zero, List.set_cons_succ]
        refine Go_.take (i := 25) (oi := ⟨some 41, Op.indexAddr 32 (Operand.tmp 1) (Operand.tmp 40), 0, _, _, none⟩) (v := ?_) rfl (by kernel_rfl) (by kernel_rfl) (by kernel_rfl) rfl (fun _ _ _ h => h) (Or.inl ⟨by rfl, ?_⟩) ?_
        rotate_left; · intro w0 _; go_simp; try with_reducible rfl
        try simp only [Act.put, List.setIfInBounds_toArray, List.set_cons_zero, List.set_cons_succ]
        refine Go_.takeB (i := 26) (oi := ⟨some 42, Op.load 22 (Operand.tmp 41), 22, _, _, none⟩) (v := ?_) rfl (by kernel_rfl) (by kernel_rfl) (by kernel_rfl) rfl (by kernel_rfl) (fun _ _ _ h => h) (Or.inl ⟨by rfl, ?_⟩) ?_
        rotate_left; · intro w0 hS; obtain ⟨d0, d1, d2, d3, d4, d5, d6, d7⟩ := hS.2.eight; go_simp; try with_reducible rfl
        try simp only [Act.put, List.setIfInBounds_toArray, List.set_cons_zero, List.set_cons_succ]
        refine Go_.take (i := 27) (oi := ⟨some 43, Op.move (Operand.tmp 4), 62, _, _, none⟩) (v := ?_) rfl (by kernel_rfl) (by kernel_rfl) (by kernel_rfl) rfl (fun _ _ _ h => h) (Or.inl ⟨by rfl, ?_⟩) ?_
        rotate_left; · intro w0 _; go_simp; try with_reducible rfl
        try simp only [Act.put, List.setIfInBounds_toArray, List.set_cons_zero, List.set_cons_succ]
        refine Go_.take (i := 28) (oi := ⟨some 44, Op.indexAddr 62 (Operand.tmp 43) (Operand.const (Value.int IntKind.i64 3)), 0, _, _, none⟩) (v := ?_) rfl (by kernel_rfl) (by kernel_rfl) (by kernel_rfl) rfl (fun _ _ _ h => h) (Or.inl ⟨by rfl, ?_⟩) ?_
        rotate_left; · intro w0 _; go_simp; try with_reducible rfl
        try simp only [Act.put, List.setIfInBounds_toArray, List.set_cons_zero, List.set_cons_succ]
        refine Go_.take (i := 29) (oi := ⟨some 45, Op.load 3 (Operand.tmp 44), 3, _, _, none⟩) (v := ?_) rfl (by kernel_rfl) (by kernel_rfl) (by kernel_rfl) rfl (fun _ _ _ h => h) (Or.inl ⟨by rfl, ?_⟩) ?_
        rotate_left; · intro w0 hS; obtain ⟨c0, c1, c2, c3⟩ := hS.four; go_simp; try with_reducible rfl
        try simp only [Act.put, List.setIfInBounds_toArray, List.set_cons_zero, List.set_cons_succ]
        refine Go_.take (i := 30) (oi := ⟨some 46, Op.indexAddr 32 (Operand.tmp 1) (Operand.tmp 45), 0, _, _, none⟩) (v := ?_) rfl (by kernel_rfl) (by kernel_rfl) (by kernel_rfl) rfl (fun _ _ _ h => h) (Or.inl ⟨by rfl, ?_⟩) ?_
        rotate_left; · intro w0 _; go_simp; try with_reducible rfl
        try simp only [Act.put, List.setIfInBounds_toArray, List.set_cons_zero, List.set_cons_succ]
        refine Go_.takeB (i := 31) (oi := ⟨some 47, Op.load 22 (Operand.tmp 46), 22, _, _, none⟩) (v := ?_) rfl (by kernel_rfl) (by kernel_rfl) (by kernel_rfl) rfl (by kernel_rfl) (fun _ _ _ h => h) (Or.inl ⟨by rfl, ?_⟩) ?_
        rotate_left; · intro w0 hS; obtain ⟨d0, d1, d2, d3, d4, d5, d6, d7⟩ := hS.2.eight; go_simp; try with_reducible rfl
        try simp only [Act.put, List.setIfInBounds_toArray, List.set_cons_zero, List.set_cons_succ]
        refine Go_.step (i := 32) (o := ⟨some 48, Op.call { callee := Callee.value (Operand.func 44), args := #[Operand.tmp 32, Operand.tmp 37, Operand.tmp 42, Operand.tmp 47], argTypes := #[22, 22, 22, 22] }, 65, _, _, none⟩) (by kernel_rfl) rfl (fun K hT hK => ?_)
        have hB := Holds.undrew (hT.2 (by kernel_rfl))
        have hB8 := hB.eight
        have hBf := hB.eightFree
        go_simp
        refine (rquarter_any _ _ _ _ _).mono ?_
        rintro e w' ⟨rfl, rfl⟩
        refine hK.out _ _ (Till.late (by kernel_rfl) hT.1) ?_
        clear hT hK K
        refine Go_.take (i := 33) (oi := ⟨some 15, Op.move (Operand.tmp 48), 65, _, _, none⟩) (v := ?_) rfl (by kernel_rfl) (by kernel_rfl) (by kernel_rfl) rfl (fun _ _ _ h => h) (Or.inl ⟨by rfl, ?_⟩) ?_
        rotate_left; · intro w0 _; go_simp; try with_reducible rfl
        try simp only [Act.put, List.setIfInBounds_toArray, List.set_cons_zero, List.set_cons_succ]
        refine Go_.take (i := 34) (oi := ⟨some 49, Op.extract (Operand.tmp 15) 0, 22, _, _, none⟩) (v := ?_) rfl (by kernel_rfl) (by kernel_rfl) (by kernel_rfl) rfl (fun _ _ _ h => h) (Or.inl ⟨by rfl, ?_⟩) ?_
        rotate_left; · intro w0 _; go_simp; try with_reducible rfl
        try simp only [Act.put, List.setIfInBounds_toArray, List.set_cons_zero, List.set_cons_succ]
        refine Go_.take (i := 35) (oi := ⟨some 50, Op.extract (Operand.tmp 15) 1, 22, _, _, none⟩) (v := ?_) rfl (by kernel_rfl) (by kernel_rfl) (by kernel_rfl) rfl (fun _ _ _ h => h) (Or.inl ⟨by rfl, ?_⟩) ?_
        rotate_left; · intro w0 _; go_simp; try with_reducible rfl
        try simp only [Act.put, List.setIfInBounds_toArray, List.set_cons_zero, List.set_cons_succ]
        refine Go_.take (i := 36) (oi := ⟨some 51, Op.extract (Operand.tmp 15) 2, 22, _, _, none⟩) (v := ?_) rfl (by kernel_rfl) (by kernel_rfl) (by kernel_rfl) rfl (fun _ _ _ h => h) (Or.inl ⟨by rfl, ?_⟩) ?_
        rotate_left; · intro w0 _; go_simp; try with_reducible rfl
        try simp only [Act.put, List.setIfInBounds_toArray, List.set_cons_zero, List.set_cons_succ]
        refine Go_.take (i := 37) (oi := ⟨some 52, Op.extract (Operand.tmp 15) 3, 22, _, _, none⟩) (v := ?_) rfl (by kernel_rfl) (by kernel_rfl) (by kernel_rfl) rfl (fun _ _ _ h => h) (Or.inl ⟨by rfl, ?_⟩) ?_
        rotate_left; · intro w0 _; go_simp; try with_reducible rfl
        try simp only [Act.put, List.setIfInBounds_toArray, List.set_cons_zero, List.set_cons_succ]
        refine Go_.take (i := 38) (oi := ⟨some 53, Op.indexAddr 32 (Operand.tmp 1) (Operand.tmp 18), 0, _, _, none⟩) (v := ?_) rfl (by kernel_rfl) (by kernel_rfl) (by kernel_rfl) rfl (fun _ _ _ h => h) (Or.inl ⟨by rfl, ?_⟩) ?_
        rotate_left; · intro w0 _; go_simp; try with_reducible rfl
        try simp only [Act.put, List.setIfInBounds_toArray, List.set_cons_zero, List.set_cons_succ]
        refine Go_.step (i := 39) (o := ⟨none, Op.store 22 (Operand.tmp 53) (Operand.tmp 49), 0, _, _, none⟩) (by kernel_rfl) rfl (fun K hT hK => ?_)
        go_simp
        refine hK.out _ _ (Till.late (by kernel_rfl) (Holds.far (p := ⟨w.heap.size, _, none⟩) hT.1 hne _)) ?_
        clear hT hK K
        refine Go_.take (i := 40) (oi := ⟨some 54, Op.indexAddr 32 (Operand.tmp 1) (Operand.tmp 21), 0, _, _, none⟩) (v := ?_) rfl (by kernel_rfl) (by kernel_rfl) (by kernel_rfl) rfl (fun _ _ _ h => h) (Or.inl ⟨by rfl, ?_⟩) ?_
        rotate_left; · intro w0 _; go_simp; try with_reducible rfl
        try simp only [Act.put, List.setIfInBounds_toArray, List.set_cons_zero, List.set_cons_succ]
        refine Go_.step (i := 41) (o := ⟨none, Op.store 22 (Operand.tmp 54) (Operand.tmp 50), 0, _, _, none⟩) (by kernel_rfl) rfl (fun K hT hK => ?_)
        go_simp
        refine hK.out _ _ (Till.late (by kernel_rfl) (Holds.far (p := ⟨w.heap.size, _, none⟩) hT.1 hne _)) ?_
        clear hT hK K
        refine Go_.take (i := 42) (oi := ⟨some 55, Op.indexAddr 32 (Operand.tmp 1) (Operand.tmp 24), 0, _, _, none⟩) (v := ?_) rfl (by kernel_rfl) (by kernel_rfl) (by kernel_rfl) rfl (fun _ _ _ h => h) (Or.inl ⟨by rfl, ?_⟩) ?_
        rotate_left; · intro w0 _; go_simp; try with_reducible rfl
        try simp only [Act.put, List.setIfInBounds_toArray, List.set_cons_zero, List.set_cons_succ]
        refine Go_.step (i := 43) (o := ⟨none, Op.store 22 (Operand.tmp 55) (Operand.tmp 51), 0, _, _, none⟩) (by kernel_rfl) rfl (fun K hT hK => ?_)
        go_simp
        refine hK.out _ _ (Till.late (by kernel_rfl) (Holds.far (p := ⟨w.heap.size, _, none⟩) hT.1 hne _)) ?_
        clear hT hK K
        refine Go_.take (i := 44) (oi := ⟨some 56, Op.indexAddr 32 (Operand.tmp 1) (Operand.tmp 27), 0, _, _, none⟩) (v := ?_) rfl (by kernel_rfl) (by kernel_rfl) (by kernel_rfl) rfl (fun _ _ _ h => h) (Or.inl ⟨by rfl, ?_⟩) ?_
        rotate_left; · intro w0 _; go_simp; try with_reducible rfl
        try simp only [Act.put, List.setIfInBounds_toArray, List.set_cons_zero, List.set_cons_succ]
        refine Go_.step (i := 45) (o := ⟨none, Op.store 22 (Operand.tmp 56) (Operand.tmp 52), 0, _, _, none⟩) (by kernel_rfl) rfl (fun K hT hK => ?_)
        go_simp
        refine hK.out _ _ (Till.late (by kernel_rfl) (Holds.far (p := ⟨w.heap.size, _, none⟩) hT.1 hne _)) ?_
        clear hT hK K
        refine Go_.done (by kernel_rfl) ?_
        go_wp2
        go_roundw
        case rel => exact ⟨n + 1, by omega, by go_num, hk2.quad0 _ _ _ _ _ _ _ _ ((vals_mx0 _).trans (by rw [mxn_r0 n k hc])), hz2.quad0Far hne2 _ _ _ _ _ _ _ _, below_quad0 hb2 (Nat.le_refl _) _ _ _ _ _ _ _ _⟩
        case measure => simp [intOf]; omega
      · have hmod : (n : Int) % 4 = 1 := by omega
        have hA := hr1
        have hne : wr.heap.size + 1 ≠ w.heap.size := by have := hk.lt; omega
        clear hr0 hr2 hr3
        go_wp2_with fail
        refine wp_region_till 32 (fun w' => Holds w' _ 3 _) (fun w' => Holds w' w.heap.size 32 _) (by kernel_rfl) hA hk2 ?_
        show Go_ _ _ _ _ _ _ _ _ _ _ (World.drew _)
        refine Go_.take (i := 0) (oi := ⟨some 16, Op.move (Operand.tmp 4), 62, _, _, none⟩) (v := ?_) rfl (by kernel_rfl) (by kernel_rfl) (by kernel_rfl) rfl (fun _ _ _ h => h) (Or.inl ⟨by rfl, ?_⟩) ?_
        rotate_left; · intro w0 _; go_simp; try with_reducible rfl
        try simp only [Act.put, List.setIfInBounds_toArray, List.set_cons_zero, List.set_cons_succ]
        refine Go_.take (i := 1) (oi := ⟨some 17, Op.indexAddr 62 (Operand.tmp 16) (Operand.const (Value.int IntKind.i64 0)), 0, _, _, none⟩) (v := ?_) rfl (by kernel_rfl) (by kernel_rfl) (by kernel_rfl) rfl (fun _ _ _ h => h) (Or.inl ⟨by rfl, ?_⟩) ?_
        rotate_left; · intro w0 _; go_simp; try with_reducible rfl
        try simp only [Act.put, List.setIfInBounds_toArray, List.set_cons_zero, List.set_cons_succ]
        refine Go_.take (i := 2) (oi := ⟨some 18, Op.load 3 (Operand.tmp 17), 3, _, _, none⟩) (v := ?_) rfl (by kernel_rfl) (by kernel_rfl) (by kernel_rfl) rfl (fun _ _ _ h => h) (Or.inl ⟨by rfl, ?_⟩) ?_
        rotate_left; · intro w0 hS; obtain ⟨c0, c1, c2, c3⟩ := hS.four; go_simp; try with_reducible rfl
        try simp only [Act.put, List.setIfInBounds_toArray, List.set_cons_zero, List.set_cons_succ]
        refine Go_.take (i := 3) (oi := ⟨some 19, Op.move (Operand.tmp 4), 62, _, _, none⟩) (v := ?_) rfl (by kernel_rfl) (by kernel_rfl) (by kernel_rfl) rfl (fun _ _ _ h => h) (Or.inl ⟨by rfl, ?_⟩) ?_
        rotate_left; · intro w0 _; go_simp; try with_reducible rfl
        try simp only [Act.put, List.setIfInBounds_toArray, List.set_cons_zero, List.set_cons_succ]
        refine Go_.take (i := 4) (oi := ⟨some 20, Op.indexAddr 62 (Operand.tmp 19) (Operand.const (Value.int IntKind.i64 1)), 0, _, _, none⟩) (v := ?_) rfl (by kernel_rfl) (by kernel_rfl) (by kernel_rfl) rfl (fun _ _ _ h => h) (Or.inl ⟨by rfl, ?_⟩) ?_
        rotate_left; · intro w0 _; go_simp; try with_reducible rfl
        try simp only [Act.put, List.setIfInBounds_toArray, List.set_cons_zero, List.set_cons_succ]
        refine Go_.take (i := 5) (oi := ⟨some 21, Op.load 3 (Operand.tmp 20), 3, _, _, none⟩) (v := ?_) rfl (by kernel_rfl) (by kernel_rfl) (by kernel_rfl) rfl (fun _ _ _ h => h) (Or.inl ⟨by rfl, ?_⟩) ?_
        rotate_left; · intro w0 hS; obtain ⟨c0, c1, c2, c3⟩ := hS.four; go_simp; try with_reducible rfl
        try simp only [Act.put, List.setIfInBounds_toArray, List.set_cons_zero, List.set_cons_succ]
        refine Go_.take (i := 6) (oi := ⟨some 22, Op.move (Operand.tmp 4), 62, _, _, none⟩) (v := ?_) rfl (by kernel_rfl) (by kernel_rfl) (by kernel_rfl) rfl (fun _ _ _ h => h) (Or.inl ⟨by rfl, ?_⟩) ?_
        rotate_left; · intro w0 _; go_simp; try with_reducible rfl
        try simp only [Act.put, List.setIfInBounds_toArray, List.set_cons_zero, List.set_cons_succ]
        refine Go_.take (i := 7) (oi := ⟨some 23, Op.indexAddr 62 (Operand.tmp 22) (Operand.const (Value.int IntKind.i64 2)), 0, _, _, none⟩) (v := ?_) rfl (by kernel_rfl) (by kernel_rfl) (by kernel_rfl) rfl (fun _ _ _ h => h) (Or.inl ⟨by rfl, ?_⟩) ?_
        rotate_left; · intro w0 _; go_simp; try with_reducible rfl
        try simp only [Act.put, List.setIfInBounds_toArray, List.set_cons_zero, List.set_cons_succ]
        refine Go_.take (i := 8) (oi := ⟨some 24, Op.load 3 (Operand.tmp 23), 3, _, _, none⟩) (v := ?_) rfl (by kernel_rfl) (by kernel_rfl) (by kernel_rfl) rfl (fun _ _ _ h => h) (Or.inl ⟨by rfl, ?_⟩) ?_
        rotate_left; · intro w0 hS; obtain ⟨c0, c1, c2, c3⟩ := hS.four; go_simp; try with_reducible rfl
        try simp only [Act.put, List.setIfInBounds_toArray, List.set_cons_zero, List.set_cons_succ]
        refine Go_.take (i := 9) (oi := ⟨some 25, Op.move (Operand.tmp 4), 62, _, _, none⟩) (v := ?_) rfl (by kernel_rfl) (by kernel_rfl) (by kernel_rfl) rfl (fun _ _ _ h => h) (Or.inl ⟨by rfl, ?_⟩) ?_
        rotate_left; · intro w0 _; go_simp; try with_reducible rfl
        try simp only [Act.put, List.setIfInBounds_toArray, List.set_cons_zero, List.set_cons_succ]
        refine Go_.take (i := 10) (oi := ⟨some 26, Op.indexAddr 62 (Operand.tmp 25) (Operand.const (Value.int IntKind.i64 3)), 0, _, _, none⟩) (v := ?_) rfl (by kernel_rfl) (by kernel_rfl) (by kernel_rfl) rfl (fun _ _ _ h => h) (Or.inl ⟨by rfl, ?_⟩) ?_
        rotate_left; · intro w0 _; go_simp; try with_reducible rfl
        try simp only [Act.put, List.setIfInBounds_toArray, List.set_cons_zero, List.set_cons_succ]
        refine Go_.take (i := 11) (oi := ⟨some 27, Op.load 3 (Operand.tmp 26), 3, _, _, none⟩) (v := ?_) rfl (by kernel_rfl) (by kernel_rfl) (by kernel_rfl) rfl (fun _ _ _ h => h) (Or.inl ⟨by rfl, ?_⟩) ?_
        rotate_left; · intro w0 hS; obtain ⟨c0, c1, c2, c3⟩ := hS.four; go_simp; try with_reducible rfl
        try simp only [Act.put, List.setIfInBounds_toArray, List.set_cons_zero, List.set_cons_succ]
        refine Go_.take (i := 12) (oi := ⟨some 28, Op.move (Operand.tmp 4), 62, _, _, none⟩) (v := ?_) rfl (by kernel_rfl) (by kernel_rfl) (by kernel_rfl) rfl (fun _ _ _ h => h) (Or.inl ⟨by rfl, ?_⟩) ?_
        rotate_left; · intro w0 _; go_simp; try with_reducible rfl
        try simp only [Act.put, List.setIfInBounds_toArray, List.set_cons_zero, List.set_cons_succ]
        refine Go_.take (i := 13) (oi := ⟨some 29, Op.indexAddr 62 (Operand.tmp 28) (Operand.const (Value.int IntKind.i64 0)), 0, _, _, none⟩) (v := ?_) rfl (by kernel_rfl) (by kernel_rfl) (by kernel_rfl) rfl (fun _ _ _ h => h) (Or.inl ⟨by rfl, ?_⟩) ?_
        rotate_left; · intro w0 _; go_simp; try with_reducible rfl
        try simp only [Act.put, List.setIfInBounds_toArray, List.set_cons_zero, List.set_cons_succ]
        refine Go_.take (i := 14) (oi := ⟨some 30, Op.load 3 (Operand.tmp 29), 3, _, _, none⟩) (v := ?_) rfl (by kernel_rfl) (by kernel_rfl) (by kernel_rfl) rfl (fun _ _ _ h => h) (Or.inl ⟨by rfl, ?_⟩) ?_
        rotate_left; · intro w0 hS; obtain ⟨c0, c1, c2, c3⟩ := hS.four; go_simp; try with_reducible rfl
        try simp only [Act.put, List.setIfInBounds_toArray, List.set_cons_zero, List.set_cons_succ]
        refine Go_.take (i := 15) (oi := ⟨some 31, Op.indexAddr 32 (Operand.tmp 1) (Operand.tmp 30), 0, _, _, none⟩) (v := ?_) rfl (by kernel_rfl) (by kernel_rfl) (by kernel_rfl) rfl (fun _ _ _ h => h) (Or.inl ⟨by rfl, ?_⟩) ?_
        rotate_left; · intro w0 _; go_simp; try with_reducible rfl
        try simp only [Act.put, List.setIfInBounds_toArray, List.set_cons_zero, List.set_cons_succ]
        refine Go_.takeB (i := 16) (oi := ⟨some 32, Op.load 22 (Operand.tmp 31), 22, _, _, none⟩) (v := ?_) rfl (by kernel_rfl) (by kernel_rfl) (by kernel_rfl) rfl (by kernel_rfl) (fun _ _ _ h => h) (Or.inl ⟨by rfl, ?_⟩) ?_
        rotate_left; · intro w0 hS; obtain ⟨d0, d1, d2, d3, d4, d5, d6, d7⟩ := hS.2.eight; go_simp; try with_reducible rfl
        try simp only [Act.put, List.setIfInBounds_toArray, List.set_cons_zero, List.set_cons_succ]
        refine Go_.take (i := 17) (oi := ⟨some 33, Op.move (Operand.tmp 4), 62, _, _, none⟩) (v := ?_) rfl (by kernel_rfl) (by kernel_rfl) (by kernel_rfl) rfl (fun _ _ _ h => h) (Or.inl ⟨by rfl, ?_⟩) ?_
        rotate_left; · intro w0 _; go_simp; try with_reducible rfl
        try simp only [Act.put, List.setIfInBounds_toArray, List.set_cons_zero, List.set_cons_succ]
        refine Go_.take (i := 18) (oi := ⟨some 34, Op.indexAddr 62 (Operand.tmp 33) (Operand.const (Value.int IntKind.i64 1)), 0, _, _, none⟩) (v := ?_) rfl (by kernel_rfl) (by kernel_rfl) (by kernel_rfl) rfl (fun _ _ _ h => h) (Or.inl ⟨by rfl, ?_⟩) ?_
        rotate_left; · intro w0 _; go_simp; try with_reducible rfl
        try simp only [Act.put, List.setIfInBounds_toArray, List.set_cons_zero, List.set_cons_succ]
        refine Go_.take (i := 19) (oi := ⟨some 35, Op.load 3 (Operand.tmp 34), 3, _, _, none⟩) (v := ?_) rfl (by kernel_rfl) (by kernel_rfl) (by kernel_rfl) rfl (fun _ _ _ h => h) (Or.inl ⟨by rfl, ?_⟩) ?_
        rotate_left; · intro w0 hS; obtain ⟨c0, c1, c2, c3⟩ := hS.four; go_simp; try with_reducible rfl
        try simp only [Act.put, List.setIfInBounds_toArray, List.set_cons_zero, List.set_cons_succ]
        refine Go_.take (i := 20) (oi := ⟨some 36, Op.indexAddr 32 (Operand.tmp 1) (Operand.tmp 35), 0, _, _, none⟩) (v := ?_) rfl (by kernel_rfl) (by kernel_rfl) (by kernel_rfl) rfl (fun _ _ _ h => h) (Or.inl ⟨by rfl, ?_⟩) ?_
        rotate_left; · intro w0 _; go_simp; try with_reducible rfl
        try simp only [Act.put, List.setIfInBounds_toArray, List.set_cons_zero, List.set_cons_succ]
        refine Go_.takeB (i := 21) (oi := ⟨some 37, Op.load 22 (Operand.tmp 36), 22, _, _, none⟩) (v := ?_) rfl (by kernel_rfl) (by kernel_rfl) (by kernel_rfl) rfl (by kernel_rfl) (fun _ _ _ h => h) (Or.inl ⟨by rfl, ?_⟩) ?_
        rotate_left; · intro w0 hS; obtain ⟨d0, d1, d2, d3, d4, d5, d6, d7⟩ := hS.2.eight; go_simp; try with_reducible rfl
        try simp only [Act.put, List.setIfInBounds_toArray, List.set_cons_zero, List.set_cons_succ]
        refine Go_.take (i := 22) (oi := ⟨some 38, Op.move (Operand.tmp 4), 62, _, _, none⟩) (v := ?_) rfl (by kernel_rfl) (by kernel_rfl) (by kernel_rfl) rfl (fun _ _ _ h => h) (Or.inl ⟨by rfl, ?_⟩) ?_
        rotate_left; · intro w0 _; go_simp; try with_reducible rfl
        try simp only [Act.put, List.setIfInBounds_toArray, List.set_cons_zero, List.set_cons_succ]
        refine Go_.take (i := 23) (oi := ⟨some 39, Op.indexAddr 62 (Operand.tmp 38) (Operand.const (Value.int IntKind.i64 2)), 0, _, _, none⟩) (v := ?_) rfl (by kernel_rfl) (by kernel_rfl) (by kernel_rfl) rfl (fun _ _ _ h => h) (Or.inl ⟨by rfl, ?_⟩) ?_
        rotate_left; · intro w0 _; go_simp; try with_reducible rfl
        try simp only [Act.put, List.setIfInBounds_toArray, List.set_cons_zero, List.set_cons_succ]
        refine Go_.take (i := 24) (oi := ⟨some 40, Op.load 3 (Operand.tmp 39), 3, _, _, none⟩) (v := ?_) rfl (by kernel_rfl) (by kernel_rfl) (by kernel_rfl) rfl (fun _ _ _ h => h) (Or.inl ⟨by rfl, ?_⟩) ?_
        rotate_left; · intro w0 hS; obtain ⟨c0, c1, c2, c3⟩ := hS.four; go_simp; try with_reducible rfl
        try simp only [Act.put, List.setIfInBounds_toArray, List.set_cons_zero, List.set_cons_succ]
        refine Go_.take (i := 25) (oi := ⟨some 41, Op.indexAddr 32 (Operand.tmp 1) (Operand.tmp 40), 0, _, _, none⟩) (v := ?_) rfl (by kernel_rfl) (by kernel_rfl) (by kernel_rfl) rfl (fun _ _ _ h => h) (Or.inl ⟨by rfl, ?_⟩) ?_
        rotate_left; · intro w0 _; go_simp; try with_reducible rfl
        try simp only [Act.put, List.setIfInBounds_toArray, List.set_cons_zero, List.set_cons_succ]
        refine Go_.takeB (i := 26) (oi := ⟨some 42, Op.load 22 (Operand.tmp 41), 22, _, _, none⟩) (v := ?_) rfl (by kernel_rfl) (by kernel_rfl) (by kernel_rfl) rfl (by kernel_rfl) (fun _ _ _ h => h) (Or.inl ⟨by rfl, ?_⟩) ?_
        rotate_left; · intro w0 hS; obtain ⟨d0, d1, d2, d3, d4, d5, d6, d7⟩ := hS.2.eight; go_simp; try with_reducible rfl
        try simp only [Act.put, List.setIfInBounds_toArray, List.set_cons_zero, List.set_cons_succ]
        refine Go_.take (i := 27) (oi := ⟨some 43, Op.move (Operand.tmp 4), 62, _, _, none⟩) (v := ?_) rfl (by kernel_rfl) (by kernel_rfl) (by kernel_rfl) rfl (fun _ _ _ h => h) (Or.inl ⟨by rfl, ?_⟩) ?_
        rotate_left; · intro w0 _; go_simp; try with_reducible rfl
        try simp only [Act.put, List.setIfInBounds_toArray, List.set_cons_zero, List.set_cons_succ]
        refine Go_.take (i := 28) (oi := ⟨some 44, Op.indexAddr 62 (Operand.tmp 43) (Operand.const (Value.int IntKind.i64 3)), 0, _, _, none⟩) (v := ?_) rfl (by kernel_rfl) (by kernel_rfl) (by kernel_rfl) rfl (fun _ _ _ h => h) (Or.inl ⟨by rfl, ?_⟩) ?_
        rotate_left; · intro w0 _; go_simp; try with_reducible rfl
        try simp only [Act.put, List.setIfInBounds_toArray, List.set_cons_zero, List.set_cons_succ]
        refine Go_.take (i := 29) (oi := ⟨some 45, Op.load 3 (Operand.tmp 44), 3, _, _, none⟩) (v := ?_) rfl (by kernel_rfl) (by kernel_rfl) (by kernel_rfl) rfl (fun _ _ _ h => h) (Or.inl ⟨by rfl, ?_⟩) ?_
        rotate_left; · intro w0 hS; obtain ⟨c0, c1, c2, c3⟩ := hS.four; go_simp; try with_reducible rfl
        try simp only [Act.put, List.setIfInBounds_toArray, List.set_cons_zero, List.set_cons_succ]
        refine Go_.take (i := 30) (oi := ⟨some 46, Op.indexAddr 32 (Operand.tmp 1) (Operand.tmp 45), 0, _, _, none⟩) (v := ?_) rfl (by kernel_rfl) (by kernel_rfl) (by kernel_rfl) rfl (fun _ _ _ h => h) (Or.inl ⟨by rfl, ?_⟩) ?_
        rotate_left; · intro w0 _; go_simp; try with_reducible rfl
        try simp only [Act.put, List.setIfInBounds_toArray, List.set_cons_zero, List.set_cons_succ]
        refine Go_.takeB (i := 31) (oi := ⟨some 47, Op.load 22 (Operand.tmp 46), 22, _, _, none⟩) (v := ?_) rfl (by kernel_rfl) (by kernel_rfl) (by kernel_rfl) rfl (by kernel_rfl) (fun _ _ _ h => h) (Or.inl ⟨by rfl, ?_⟩) ?_
        rotate_left; · intro w0 hS; obtain ⟨d0, d1, d2, d3, d4, d5, d6, d7⟩ := hS.2.eight; go_simp; try with_reducible rfl
        try simp only [Act.put, List.setIfInBounds_toArray, List.set_cons_zero, List.set_cons_succ]
        refine Go_.step (i := 32) (o := ⟨some 48, Op.call { callee := Callee.value (Operand.func 44), args := #[Operand.tmp 32, Operand.tmp 37, Operand.tmp 42, Operand.tmp 47], argTypes := #[22, 22, 22, 22] }, 65, _, _, none⟩) (by kernel_rfl) rfl (fun K hT hK => ?_)
        have hB := Holds.undrew (hT.2 (by kernel_rfl))
        have hB8 := hB.eight
        have hBf := hB.eightFree
        go_simp
        refine (rquarter_any _ _ _ _ _).mono ?_
        rintro e w' ⟨rfl, rfl⟩
        refine hK.out _ _ (Till.late (by kernel_rfl) hT.1) ?_
        clear hT hK K
        refine Go_.take (i := 33) (oi := ⟨some 15, Op.move (Operand.tmp 48), 65, _, _, none⟩) (v := ?_) rfl (by kernel_rfl) (by kernel_rfl) (by kernel_rfl) rfl (fun _ _ _ h => h) (Or.inl ⟨by rfl, ?_⟩) ?_
        rotate_left; · intro w0 _; go_simp; try with_reducible rfl
        try simp only [Act.put, List.setIfInBounds_toArray, List.set_cons_zero, List.set_cons_succ]
        refine Go_.take (i := 34) (oi := ⟨some 49, Op.extract (Operand.tmp 15) 0, 22, _, _, none⟩) (v := ?_) rfl (by kernel_rfl) (by kernel_rfl) (by kernel_rfl) rfl (fun _ _ _ h => h) (Or.inl ⟨by rfl, ?_⟩) ?_
        rotate_left; · intro w0 _; go_simp; try with_reducible rfl
        try simp only [Act.put, List.setIfInBounds_toArray, List.set_cons_zero, List.set_cons_succ]
        refine Go_.take (i := 35) (oi := ⟨some 50, Op.extract (Operand.tmp 15) 1, 22, _, _, none⟩) (v := ?_) rfl (by kernel_rfl) (by kernel_rfl) (by kernel_rfl) rfl (fun _ _ _ h => h) (Or.inl ⟨by rfl, ?_⟩) ?_
        rotate_left; · intro w0 _; go_simp; try with_reducible rfl
        try simp only [Act.put, List.setIfInBounds_toArray, List.set_cons_zero, List.set_cons_succ]
        refine Go_.take (i := 36) (oi := ⟨some 51, Op.extract (Operand.tmp 15) 2, 22, _, _, none⟩) (v := ?_) rfl (by kernel_rfl) (by kernel_rfl) (by kernel_rfl) rfl (fun _ _ _ h => h) (Or.inl ⟨by rfl, ?_⟩) ?_
        rotate_left; · intro w0 _; go_simp; try with_reducible rfl
        try simp only [Act.put, List.setIfInBounds_toArray, List.set_cons_zero, List.set_cons_succ]
        refine Go_.take (i := 37) (oi := ⟨some 52, Op.extract (Operand.tmp 15) 3, 22, _, _, none⟩) (v := ?_) rfl (by kernel_rfl) (by kernel_rfl) (by kernel_rfl) rfl (fun _ _ _ h => h) (Or.inl ⟨by rfl, ?_⟩) ?_
        rotate_left; · intro w0 _; go_simp; try with_reducible rfl
        try simp only [Act.put, List.setIfInBounds_toArray, List.set_cons_zero, List.set_cons_succ]
        refine Go_.take (i := 38) (oi := ⟨some 53, Op.indexAddr 32 (Operand.tmp 1) (Operand.tmp 18), 0, _, _, none⟩) (v := ?_) rfl (by kernel_rfl) (by kernel_rfl) (by kernel_rfl) rfl (fun _ _ _ h => h) (Or.inl ⟨by rfl, ?_⟩) ?_
        rotate_left; · intro w0 _; go_simp; try with_reducible rfl
        try simp only [Act.put, List.setIfInBounds_toArray, List.set_cons_zero, List.set_cons_succ]
        refine Go_.step (i := 39) (o := ⟨none, Op.store 22 (Operand.tmp 53) (Operand.tmp 49), 0, _, _, none⟩) (by kernel_rfl) rfl (fun K hT hK => ?_)
        go_simp
        refine hK.out _ _ (Till.late (by kernel_rfl) (Holds.far (p := ⟨w.heap.size, _, none⟩) hT.1 hne _)) ?_
        clear hT hK K
        refine Go_.take (i := 40) (oi := ⟨some 54, Op.indexAddr 32 (Operand.tmp 1) (Operand.tmp 21), 0, _, _, none⟩) (v := ?_) rfl (by kernel_rfl) (by kernel_rfl) (by kernel_rfl) rfl (fun _ _ _ h => h) (Or.inl ⟨by rfl, ?_⟩) ?_
        rotate_left; · intro w0 _; go_simp; try with_reducible rfl
        try simp only [Act.put, List.setIfInBounds_toArray, List.set_cons_zero, List.set_cons_succ]
        refine Go_.step (i := 41) (o := ⟨none, Op.store 22 (Operand.tmp 54) (Operand.tmp 50), 0, _, _, none⟩) (by kernel_rfl) rfl (fun K hT hK => ?_)
        go_simp
        refine hK.out _ _ (Till.late (by kernel_rfl) (Holds.far (p := ⟨w.heap.size, _, none⟩) hT.1 hne _)) ?_
        clear hT hK K
        refine Go_.take (i := 42) (oi := ⟨some 55, Op.indexAddr 32 (Operand.tmp 1) (Operand.tmp 24), 0, _, _, none⟩) (v := ?_) rfl (by kernel_rfl) (by kernel_rfl) (by kernel_rfl) rfl (fun _ _ _ h => h) (Or.inl ⟨by rfl, ?_⟩) ?_
        rotate_left; · intro w0 _; go_simp; try with_reducible rfl
        try simp only [Act.put, List.setIfInBounds_toArray, List.set_cons_zero, List.set_cons_succ]
        refine Go_.step (i := 43) (o := ⟨none, Op.store 22 (Operand.tmp 55) (Operand.tmp 51), 0, _, _, none⟩) (by kernel_rfl) rfl (fun K hT hK => ?_)
        go_simp
        refine hK.out _ _ (Till.late (by kernel_rfl) (Holds.far (p := ⟨w.heap.size, _, none⟩) hT.1 hne _)) ?_
        clear hT hK K
        refine Go_.take (i := 44) (oi := ⟨some 56, Op.indexAddr 32 (Operand.tmp 1) (Operand.tmp 27), 0, _, _, none⟩) (v := ?_) rfl (by kernel_rfl) (by kernel_rfl) (by kernel_rfl) rfl (fun _ _ _ h => h) (Or.inl ⟨by rfl, ?_⟩) ?_
        rotate_left; · intro w0 _; go_simp; try with_reducible rfl
        try simp only [Act.put, List.setIfInBounds_toArray, List.set_cons_zero, List.set_cons_succ]
        refine Go_.step (i := 45) (o := ⟨none, Op.store 22 (Operand.tmp 56) (Operand.tmp 52), 0, _, _, none⟩) (by kernel_rfl) rfl (fun K hT hK => ?_)
        go_simp
        refine hK.out _ _ (Till.late (by kernel_rfl) (Holds.far (p := ⟨w.heap.size, _, none⟩) hT.1 hne _)) ?_
        clear hT hK K
        refine Go_.done (by kernel_rfl) ?_
        go_wp2
        go_roundw
        case rel => exact ⟨n + 1, by omega, by go_num, hk2.quad0 _ _ _ _ _ _ _ _ ((vals_mx1 _).trans (by rw [mxn_r1 n k hc])), hz2.quad0Far hne2 _ _ _ _ _ _ _ _, below_quad0 hb2 (Nat.le_refl _) _ _ _ _ _ _ _ _⟩
        case measure => simp [intOf]; omega
      · have hmod : (n : Int) % 4 = 2 := by omega
        have hA := hr2
        have hne : wr.heap.size + 2 ≠ w.heap.size := by have := hk.lt; omega
        clear hr0 hr1 hr3
        go_wp2_with fail
        refine wp_region_till 32 (fun w' => Holds w' _ 3 _) (fun w' => Holds w' w.heap.size 32 _) (by kernel_rfl) hA hk2 ?_
        show Go_ _ _ _ _ _ _ _ _ _ _ (World.drew _)
        refine Go_.take (i := 0) (oi := ⟨some 16, Op.move (Operand.tmp 4), 62, _, _, none⟩) (v := ?_) rfl (by kernel_rfl) (by kernel_rfl) (by kernel_rfl) rfl (fun _ _ _ h => h) (Or.inl ⟨by rfl, ?_⟩) ?_
        rotate_left; · intro w0 _; go_simp; try with_reducible rfl
        try simp only [Act.put, List.setIfInBounds_toArray, List.set_cons_zero, List.set_cons_succ]
        refine Go_.take (i := 1) (oi := ⟨some 17, Op.indexAddr 62 (Operand.tmp 16) (Operand.const (Value.int IntKind.i64 0)), 0, _, _, none⟩) (v := ?_) rfl (by kernel_rfl) (by kernel_rfl) (by kernel_rfl) rfl (fun _ _ _ h => h) (Or.inl ⟨by rfl, ?_⟩) ?_
        rotate_left; · intro w0 _; go_simp; try with_reducible rfl
        try simp only [Act.put, List.setIfInBounds_toArray, List.set_cons_zero, List.set_cons_succ]
        refine Go_.take (i := 2) (oi := ⟨some 18, Op.load 3 (Operand.tmp 17), 3, _, _, none⟩) (v := ?_) rfl (by kernel_rfl) (by kernel_rfl) (by kernel_rfl) rfl (fun _ _ _ h => h) (Or.inl ⟨by rfl, ?_⟩) ?_
        rotate_left; · intro w0 hS; obtain ⟨c0, c1, c2, c3⟩ := hS.four; go_simp; try with_reducible rfl
        try simp only [Act.put, List.setIfInBounds_toArray, List.set_cons_zero, List.set_cons_succ]
        refine Go_.take (i := 3) (oi := ⟨some 19, Op.move (Operand.tmp 4), 62, _, _, none⟩) (v := ?_) rfl (by kernel_rfl) (by kernel_rfl) (by kernel_rfl) rfl (fun _ _ _ h => h) (Or.inl ⟨by rfl, ?_⟩) ?_
        rotate_left; · intro w0 _; go_simp; try with_reducible rfl
        try simp only [Act.put, List.setIfInBounds_toArray, List.set_cons_zero, List.set_cons_succ]
        refine Go_.take (i := 4) (oi := ⟨some 20, Op.indexAddr 62 (Operand.tmp 19) (Operand.const (Value.int IntKind.i64 1)), 0, _, _, none⟩) (v := ?_) rfl (by kernel_rfl) (by kernel_rfl) (by kernel_rfl) rfl (fun _ _ _ h => h) (Or.inl ⟨by rfl, ?_⟩) ?_
        rotate_left; · intro w0 _; go_simp; try with_reducible rfl
        try simp only [Act.put, List.setIfInBounds_toArray, List.set_cons_zero, List.set_cons_succ]
        refine Go_.take (i := 5) (oi := ⟨some 21, Op.load 3 (Operand.tmp 20), 3, _, _, none⟩) (v := ?_) rfl (by kernel_rfl) (by kernel_rfl) (by kernel_rfl) rfl (fun _ _ _ h => h) (Or.inl ⟨by rfl, ?_⟩) ?_
        rotate_left; · intro w0 hS; obtain ⟨c0, c1, c2, c3⟩ := hS.four; go_simp; try with_reducible rfl
        try simp only [Act.put, List.setIfInBounds_toArray, List.set_cons_zero, List.set_cons_succ]
        refine Go_.take (i := 6) (oi := ⟨some 22, Op.move (Operand.tmp 4), 62, _, _, none⟩) (v := ?_) rfl (by kernel_rfl) (by kernel_rfl) (by kernel_rfl) rfl (fun _ _ _ h => h) (Or.inl ⟨by rfl, ?_⟩) ?_
        rotate_left; · intro w0 _; go_simp; try with_reducible rfl
        try simp only [Act.put, List.setIfInBounds_toArray, List.set_cons_zero, List.set_cons_succ]
        refine Go_.take (i := 7) (oi := ⟨some 23, Op.indexAddr 62 (Operand.tmp 22) (Operand.const (Value.int IntKind.i64 2)), 0, _, _, none⟩) (v := ?_) rfl (by kernel_rfl) (by kernel_rfl) (by kernel_rfl) rfl (fun _ _ _ h => h) (Or.inl ⟨by rfl, ?_⟩) ?_
        rotate_left; · intro w0 _; go_simp; try with_reducible rfl
        try simp only [Act.put, List.setIfInBounds_toArray, List.set_cons_zero, List.set_cons_succ]
        refine Go_.take (i := 8) (oi := ⟨some 24, Op.load 3 (Operand.tmp 23), 3, _, _, none⟩) (v := ?_) rfl (by kernel_rfl) (by kernel_rfl) (by kernel_rfl) rfl (fun _ _ _ h => h) (Or.inl ⟨by rfl, ?_⟩) ?_
        rotate_left; · intro w0 hS; obtain ⟨c0, c1, c2, c3⟩ := hS.four; go_simp; try with_reducible rfl
        try simp only [Act.put, List.setIfInBounds_toArray, List.set_cons_zero, List.set_cons_succ]
        refine Go_.take (i := 9) (oi := ⟨some 25, Op.move (Operand.tmp 4), 62, _, _, none⟩) (v := ?_) rfl (by kernel_rfl) (by kernel_rfl) (by kernel_rfl) rfl (fun _ _ _ h => h) (Or.inl ⟨by rfl, ?_⟩) ?_
        rotate_left; · intro w0 _; go_simp; try with_reducible rfl
        try simp only [Act.put, List.setIfInBounds_toArray, List.set_cons_zero, List.set_cons_succ]
        refine Go_.take (i := 10) (oi := ⟨some 26, Op.indexAddr 62 (Operand.tmp 25) (Operand.const (Value.int IntKind.i64 3)), 0, _, _, none⟩) (v := ?_) rfl (by kernel_rfl) (by kernel_rfl) (by kernel_rfl) rfl (fun _ _ _ h => h) (Or.inl ⟨by rfl, ?_⟩) ?_
        rotate_left; · intro w0 _; go_simp; try with_reducible rfl
        try simp only [Act.put, List.setIfInBounds_toArray, List.set_cons_zero, List.set_cons_succ]
        refine Go_.take (i := 11) (oi := ⟨some 27, Op.load 3 (Operand.tmp 26), 3, _, _, none⟩) (v := ?_) rfl (by kernel_rfl) (by kernel_rfl) (by kernel_rfl) rfl (fun _ _ _ h => h) (Or.inl ⟨by rfl, ?_⟩) ?_
        rotate_left; · intro w0 hS; obtain ⟨c0, c1, c2, c3⟩ := hS.four; go_simp; try with_reducible rfl
        try simp only [Act.put, List.setIfInBounds_toArray, List.set_cons_zero, List.set_cons_succ]
        refine Go_.take (i := 12) (oi := ⟨some 28, Op.move (Operand.tmp 4), 62, _, _, none⟩) (v := ?_) rfl (by kernel_rfl) (by kernel_rfl) (by kernel_rfl) rfl (fun _ _ _ h => h) (Or.inl ⟨by rfl, ?_⟩) ?_
        rotate_left; · intro w0 _; go_simp; try with_reducible rfl
        try simp only [Act.put, List.setIfInBounds_toArray, List.set_cons_zero, List.set_cons_succ]
        refine Go_.take (i := 13) (oi := ⟨some 29, Op.indexAddr 62 (Operand.tmp 28) (Operand.const (Value.int IntKind.i64 0)), 0, _, _, none⟩) (v := ?_) rfl (by kernel_rfl) (by kernel_rfl) (by kernel_rfl) rfl (fun _ _ _ h => h) (Or.inl ⟨by rfl, ?_⟩) ?_
        rotate_left; · intro w0 _; go_simp; try with_reducible rfl
        try simp only [Act.put, List.setIfInBounds_toArray, List.set_cons_zero, List.set_cons_succ]
        refine Go_.take (i := 14) (oi := ⟨some 30, Op.load 3 (Operand.tmp 29), 3, _, _, none⟩) (v := ?_) rfl (by kernel_rfl) (by kernel_rfl) (by kernel_rfl) rfl (fun _ _ _ h => h) (Or.inl ⟨by rfl, ?_⟩) ?_
        rotate_left; · intro w0 hS; obtain ⟨c0, c1, c2, c3⟩ := hS.four; go_simp; try with_reducible rfl
        try simp only [Act.put, List.setIfInBounds_toArray, List.set_cons_zero, List.set_cons_succ]
        refine Go_.take (i := 15) (oi := ⟨some 31, Op.indexAddr 32 (Operand.tmp 1) (Operand.tmp 30), 0, _, _, none⟩) (v := ?_) rfl (by kernel_rfl) (by kernel_rfl) (by kernel_rfl) rfl (fun _ _ _ h => h) (Or.inl ⟨by rfl, ?_⟩) ?_
        rotate_left; · intro w0 _; go_simp; try with_reducible rfl
        try simp only [Act.put, List.setIfInBounds_toArray, List.set_cons_zero, List.set_cons_succ]
        refine Go_.takeB (i := 16) (oi := ⟨some 32, Op.load 22 (Operand.tmp 31), 22, _, _, none⟩) (v := ?_) rfl (by kernel_rfl) (by kernel_rfl) (by kernel_rfl) rfl (by kernel_rfl) (fun _ _ _ h => h) (Or.inl ⟨by rfl, ?_⟩) ?_
        rotate_left; · intro w0 hS; obtain ⟨d0, d1, d2, d3, d4, d5, d6, d7⟩ := hS.2.eight; go_simp; try with_reducible rfl
        try simp only [Act.put, List.setIfInBounds_toArray, List.set_cons_zero, List.set_cons_succ]
        refine Go_.take (i := 17) (oi := ⟨some 33, Op.move (Operand.tmp 4), 62, _, _, none⟩) (v := ?_) rfl (by kernel_rfl) (by kernel_rfl) (by kernel_rfl) rfl (fun _ _ _ h => h) (Or.inl ⟨by rfl, ?_⟩) ?_
        rotate_left; · intro w0 _; go_simp; try with_reducible rfl
        try simp only [Act.put, List.setIfInBounds_toArray, List.set_cons_zero, List.set_cons_succ]
        refine Go_.take (i := 18) (oi := ⟨some 34, Op.indexAddr 62 (Operand.tmp 33) (Operand.const (Value.int IntKind.i64 1)), 0, _, _, none⟩) (v := ?_) rfl (by kernel_rfl) (by kernel_rfl) (by kernel_rfl) rfl (fun _ _ _ h => h) (Or.inl ⟨by rfl, ?_⟩) ?_
        rotate_left; · intro w0 _; go_simp; try with_reducible rfl
        try simp only [Act.put, List.setIfInBounds_toArray, List.set_cons_zero, List.set_cons_succ]
        refine Go_.take (i := 19) (oi := ⟨some 35, Op.load 3 (Operand.tmp 34), 3, _, _, none⟩) (v := ?_) rfl (by kernel_rfl) (by kernel_rfl) (by kernel_rfl) rfl (fun _ _ _ h => h) (Or.inl ⟨by rfl, ?_⟩) ?_
        rotate_left; · intro w0 hS; obtain ⟨c0, c1, c2, c3⟩ := hS.four; go_simp; try with_reducible rfl
        try simp only [Act.put, List.setIfInBounds_toArray, List.set_cons_zero, List.set_cons_succ]
        refine Go_.take (i := 20) (oi := ⟨some 36, Op.indexAddr 32 (Operand.tmp 1) (Operand.tmp 35), 0, _, _, none⟩) (v := ?_) rfl (by kernel_rfl) (by kernel_rfl) (by kernel_rfl) rfl (fun _ _ _ h => h) (Or.inl ⟨by rfl, ?_⟩) ?_
        rotate_left; · intro w0 _; go_simp; try with_reducible rfl
        try simp only [Act.put, List.setIfInBounds_toArray, List.set_cons_zero, List.set_cons_succ]
        refine Go_.takeB (i := 21) (oi := ⟨some 37, Op.load 22 (Operand.tmp 36), 22, _, _, none⟩) (v := ?_) rfl (by kernel_rfl) (by kernel_rfl) (by kernel_rfl) rfl (by kernel_rfl) (fun _ _ _ h => h) (Or.inl ⟨by rfl, ?_⟩) ?_
        rotate_left; · intro w0 hS; obtain ⟨d0, d1, d2, d3, d4, d5, d6, d7⟩ := hS.2.eight; go_simp; try with_reducible rfl
        try simp only [Act.put, List.setIfInBounds_toArray, List.set_cons_zero, List.set_cons_succ]
        refine Go_.take (i := 22) (oi := ⟨some 38, Op.move (Operand.tmp 4), 62, _, _, none⟩) (v := ?_) rfl (by kernel_rfl) (by kernel_rfl) (by kernel_rfl) rfl (fun _ _ _ h => h) (Or.inl ⟨by rfl, ?_⟩) ?_
        rotate_left; · intro w0 _; go_simp; try with_reducible rfl
        try simp only [Act.put, List.setIfInBounds_toArray, List.set_cons_zero, List.set_cons_succ]
        refine Go_.take (i := 23) (oi := ⟨some 39, Op.indexAddr 62 (Operand.tmp 38) (Operand.const (Value.int IntKind.i64 2)), 0, _, _, none⟩) (v := ?_) rfl (by kernel_rfl) (by kernel_rfl) (by kernel_rfl) rfl (fun _ _ _ h => h) (Or.inl ⟨by rfl, ?_⟩) ?_
        rotate_left; · intro w0 _; go_simp; try with_reducible rfl
        try simp only [Act.put, List.setIfInBounds_toArray, List.set_cons_zero, List.set_cons_succ]
        refine Go_.take (i := 24) (oi := ⟨some 40, Op.load 3 (Operand.tmp 39), 3, _, _, none⟩) (v := ?_) rfl (by kernel_rfl) (by kernel_rfl) (by kernel_rfl) rfl (fun _ _ _ h => h) (Or.inl ⟨by rfl, ?_⟩) ?_
        rotate_left; · intro w0 hS; obtain ⟨c0, c1, c2, c3⟩ := hS.four; go_simp; try with_reducible rfl
        try simp only [Act.put, List.setIfInBounds_toArray, List.set_cons_zero, List.set_cons_succ]
        refine Go_.take (i := 25) (oi := ⟨some 41, Op.indexAddr 32 (Operand.tmp 1) (Operand.tmp 40), 0, _, _, none⟩) (v := ?_) rfl (by kernel_rfl) (by kernel_rfl) (by kernel_rfl) rfl (fun _ _ _ h => h) (Or.inl ⟨by rfl, ?_⟩) ?_
        rotate_left; · intro w0 _; go_simp; try with_reducible rfl
        try simp only [Act.put, List.setIfInBounds_toArray, List.set_cons_zero, List.set_cons_succ]
        refine Go_.takeB (i := 26) (oi := ⟨some 42, Op.load 22 (Operand.tmp 41), 22, _, _, none⟩) (v := ?_) rfl (by kernel_rfl) (by kernel_rfl) (by kernel_rfl) rfl (by kernel_rfl) (fun _ _ _ h => h) (Or.inl ⟨by rfl, ?_⟩) ?_
        rotate_left; · intro w0 hS; obtain ⟨d0, d1, d2, d3, d4, d5, d6, d7⟩ := hS.2.eight; go_simp; try with_reducible rfl
        try simp only [Act.put, List.setIfInBounds_toArray, List.set_cons_zero, List.set_cons_succ]
        refine Go_.take (i := 27) (oi := ⟨some 43, Op.move (Operand.tmp 4), 62, _, _, none⟩) (v := ?_) rfl (by kernel_rfl) (by kernel_rfl) (by kernel_rfl) rfl (fun _ _ _ h => h) (Or.inl ⟨by rfl, ?_⟩) ?_
        rotate_left; · intro w0 _; go_simp; try with_reducible rfl
        try simp only [Act.put, List.setIfInBounds_toArray, List.set_cons_zero, List.set_cons_succ]
        refine Go_.take (i := 28) (oi := ⟨some 44, Op.indexAddr 62 (Operand.tmp 43) (Operand.const (Value.int IntKind.i64 3)), 0, _, _, none⟩) (v := ?_) rfl (by kernel_rfl) (by kernel_rfl) (by kernel_rfl) rfl (fun _ _ _ h => h) (Or.inl ⟨by rfl, ?_⟩) ?_
        rotate_left; · intro w0 _; go_simp; try with_reducible rfl
        try simp only [Act.put, List.setIfInBounds_toArray, List.set_cons_zero, List.set_cons_succ]
        refine Go_.take (i := 29) (oi := ⟨some 45, Op.load 3 (Operand.tmp 44), 3, _, _, none⟩) (v := ?_) rfl (by kernel_rfl) (by kernel_rfl) (by kernel_rfl) rfl (fun _ _ _ h => h) (Or.inl ⟨by rfl, ?_⟩) ?_
        rotate_left; · intro w0 hS; obtain ⟨c0, c1, c2, c3⟩ := hS.four; go_simp; try with_reducible rfl
        try simp only [Act.put, List.setIfInBounds_toArray, List.set_cons_zero, List.set_cons_succ]
        refine Go_.take (i := 30) (oi := ⟨some 46, Op.indexAddr 32 (Operand.tmp 1) (Operand.tmp 45), 0, _, _, none⟩) (v := ?_) rfl (by kernel_rfl) (by kernel_rfl) (by kernel_rfl) rfl (fun _ _ _ h => h) (Or.inl ⟨by rfl, ?_⟩) ?_
        rotate_left; · intro w0 _; go_simp; try with_reducible rfl
        try simp only [Act.put, List.setIfInBounds_toArray, List.set_cons_zero, List.set_cons_succ]
        refine Go_.takeB (i := 31) (oi := ⟨some 47, Op.load 22 (Operand.tmp 46), 22, _, _, none⟩) (v := ?_) rfl (by kernel_rfl) (by kernel_rfl) (by kernel_rfl) rfl (by kernel_rfl) (fun _ _ _ h => h) (Or.inl ⟨by rfl, ?_⟩) ?_
        rotate_left; · intro w0 hS; obtain ⟨d0, d1, d2, d3, d4, d5, d6, d7⟩ := hS.2.eight; go_simp; try with_reducible rfl
        try simp only [Act.put, List.setIfInBounds_toArray, List.set_cons_zero, List.set_cons_succ]
        refine Go_.step (i := 32) (o := ⟨some 48, Op.call { callee := Callee.value (Operand.func 44), args := #[Operand.tmp 32, Operand.tmp 37, Operand.tmp 42, Operand.tmp 47], argTypes := #[22, 22, 22, 22] }, 65, _, _, none⟩) (by kernel_rfl) rfl (fun K hT hK => ?_)
        have hB := Holds.undrew (hT.2 (by kernel_rfl))
        have hB8 := hB.eight
        have hBf := hB.eightFree
        go_simp
        refine (rquarter_any _ _ _ _ _).mono ?_
        rintro e w' ⟨rfl, rfl⟩
        refine hK.out _ _ (Till.late (by kernel_rfl) hT.1) ?_
        clear hT hK K
        refine Go_.take (i := 33) (oi := ⟨some 15, Op.move (Operand.tmp 48), 65, _, _, none⟩) (v := ?_) rfl (by kernel_rfl) (by kernel_rfl) (by kernel_rfl) rfl (fun _ _ _ h => h) (Or.inl ⟨by rfl, ?_⟩) ?_
        rotate_left; · intro w0 _; go_simp; try with_reducible rfl
        try simp only [Act.put, List.setIfInBounds_toArray, List.set_cons_zero, List.set_cons_succ]
        refine Go_.take (i := 34) (oi := ⟨some 49, Op.extract (Operand.tmp 15) 0, 22, _, _, none⟩) (v := ?_) rfl (by kernel_rfl) (by kernel_rfl) (by kernel_rfl) rfl (fun _ _ _ h => h) (Or.inl ⟨by rfl, ?_⟩) ?_
        rotate_left; · intro w0 _; go_simp; try with_reducible rfl
        try simp only [Act.put, List.setIfInBounds_toArray, List.set_cons_zero, List.set_cons_succ]
        refine Go_.take (i := 35) (oi := ⟨some 50, Op.extract (Operand.tmp 15) 1, 22, _, _, none⟩) (v := ?_) rfl (by kernel_rfl) (by kernel_rfl) (by kernel_rfl) rfl (fun _ _ _ h => h) (Or.inl ⟨by rfl, ?_⟩) ?_
        rotate_left; · intro w0 _; go_simp; try with_reducible rfl
        try simp only [Act.put, List.setIfInBounds_toArray, List.set_cons_zero, List.set_cons_succ]
        refine Go_.take (i := 36) (oi := ⟨some 51, Op.extract (Operand.tmp 15) 2, 22, _, _, none⟩) (v := ?_) rfl (by kernel_rfl) (by kernel_rfl) (by kernel_rfl) rfl (fun _ _ _ h => h) (Or.inl ⟨by rfl, ?_⟩) ?_
        rotate_left; · intro w0 _; go_simp; try with_reducible rfl
        try simp only [Act.put, List.setIfInBounds_toArray, List.set_cons_zero, List.set_cons_succ]
        refine Go_.take (i := 37) (oi := ⟨some 52, Op.extract (Operand.tmp 15) 3, 22, _, _, none⟩) (v := ?_) rfl (by kernel_rfl) (by kernel_rfl) (by kernel_rfl) rfl (fun _ _ _ h => h) (Or.inl ⟨by rfl, ?_⟩) ?_
        rotate_left; · intro w0 _; go_simp; try with_reducible rfl
        try simp only [Act.put, List.setIfInBounds_toArray, List.set_cons_zero, List.set_cons_succ]
        refine Go_.take (i := 38) (oi := ⟨some 53, Op.indexAddr 32 (Operand.tmp 1) (Operand.tmp 18), 0, _, _, none⟩) (v := ?_) rfl (by kernel_rfl) (by kernel_rfl) (by kernel_rfl) rfl (fun _ _ _ h => h) (Or.inl ⟨by rfl, ?_⟩) ?_
        rotate_left; · intro w0 _; go_simp; try with_reducible rfl
        try simp only [Act.put, List.setIfInBounds_toArray, List.set_cons_zero, List.set_cons_succ]
        refine Go_.step (i := 39) (o := ⟨none, Op.store 22 (Operand.tmp 53) (Operand.tmp 49), 0, _, _, none⟩) (by kernel_rfl) rfl (fun K hT hK => ?_)
        go_simp
        refine hK.out _ _ (Till.late (by kernel_rfl) (Holds.far (p := ⟨w.heap.size, _, none⟩) hT.1 hne _)) ?_
        clear hT hK K
        refine Go_.take (i := 40) (oi := ⟨some 54, Op.indexAddr 32 (Operand.tmp 1) (Operand.tmp 21), 0, _, _, none⟩) (v := ?_) rfl (by kernel_rfl) (by kernel_rfl) (by kernel_rfl) rfl (fun _ _ _ h => h) (Or.inl ⟨by rfl, ?_⟩) ?_
        rotate_left; · intro w0 _; go_simp; try with_reducible rfl
        try simp only [Act.put, List.setIfInBounds_toArray, List.set_cons_zero, List.set_cons_succ]
        refine Go_.step (i := 41) (o := ⟨none, Op.store 22 (Operand.tmp 54) (Operand.tmp 50), 0, _, _, none⟩) (by kernel_rfl) rfl (fun K hT hK => ?_)
        go_simp
        refine hK.out _ _ (Till.late (by kernel_rfl) (Holds.far (p := ⟨w.heap.size, _, none⟩) hT.1 hne _)) ?_
        clear hT hK K
        refine Go_.take (i := 42) (oi := ⟨some 55, Op.indexAddr 32 (Operand.tmp 1) (Operand.tmp 24), 0, _, _, none⟩) (v := ?_) rfl (by kernel_rfl) (by kernel_rfl) (by kernel_rfl) rfl (fun _ _ _ h => h) (Or.inl ⟨by rfl, ?_⟩) ?_
        rotate_left; · intro w0 _; go_simp; try with_reducible rfl
        try simp only [Act.put, List.setIfInBounds_toArray, List.set_cons_zero, List.set_cons_succ]
        refine Go_.step (i := 43) (o := ⟨none, Op.store 22 (Operand.tmp 55) (Operand.tmp 51), 0, _, _, none⟩) (by kernel_rfl) rfl (fun K hT hK => ?_)
        go_simp
        refine hK.out _ _ (Till.late (by kernel_rfl) (Holds.far (p := ⟨w.heap.size, _, none⟩) hT.1 hne _)) ?_
        clear hT hK K
        refine Go_.take (i := 44) (oi := ⟨some 56, Op.indexAddr 32 (Operand.tmp 1) (Operand.tmp 27), 0, _, _, none⟩) (v := ?_) rfl (by kernel_rfl) (by kernel_rfl) (by kernel_rfl) rfl (fun _ _ _ h => h) (Or.inl ⟨by rfl, ?_⟩) ?_
        rotate_left; · intro w0 _; go_simp; try with_reducible rfl
        try simp only [Act.put, List.setIfInBounds_toArray, List.set_cons_zero, List.set_cons_succ]
        refine Go_.step (i := 45) (o := ⟨none, Op.store 22 (Operand.tmp 56) (Operand.tmp 52), 0, _, _, none⟩) (by kernel_rfl) rfl (fun K hT hK => ?_)
        go_simp
        refine hK.out _ _ (Till.late (by kernel_rfl) (Holds.far (p := ⟨w.heap.size, _, none⟩) hT.1 hne _)) ?_
        clear hT hK K
        refine Go_.done (by kernel_rfl) ?_
        go_wp2
        go_roundw
        case rel => exact ⟨n + 1, by omega, by go_num, hk2.quad0 _ _ _ _ _ _ _ _ ((vals_mx2 _).trans (by rw [mxn_r2 n k hc])), hz2.quad0Far hne2 _ _ _ _ _ _ _ _, below_quad0 hb2 (Nat.le_refl _) _ _ _ _ _ _ _ _⟩
        case measure => simp [intOf]; omega
      · have hmod : (n : Int) % 4 = 3 := by omega
        have hA := hr3
        have hne : wr.heap.size + 3 ≠ w.heap.size := by have := hk.lt; omega
        clear hr0 hr1 hr2
        go_wp2_with fail
        refine wp_region_till 32 (fun w' => Holds w' _ 3 _) (fun w' => Holds w' w.heap.size 32 _) (by kernel_rfl) hA hk2 ?_
        show Go_ _ _ _ _ _ _ _ _ _ _ (World.drew _)
        refine Go_.take (i := 0) (oi := ⟨some 16, Op.move (Operand.tmp 4), 62, _, _, none⟩) (v := ?_) rfl (by kernel_rfl) (by kernel_rfl) (by kernel_rfl) rfl (fun _ _ _ h => h) (Or.inl ⟨by rfl, ?_⟩) ?_
        rotate_left; · intro w0 _; go_simp; try with_reducible rfl
        try simp only [Act.put, List.setIfInBounds_toArray, List.set_cons_zero, List.set_cons_succ]
        refine Go_.take (i := 1) (oi := ⟨some 17, Op.indexAddr 62 (Operand.tmp 16) (Operand.const (Value.int IntKind.i64 0)), 0, _, _, none⟩) (v := ?_) rfl (by kernel_rfl) (by kernel_rfl) (by kernel_rfl) rfl (fun _ _ _ h => h) (Or.inl ⟨by rfl, ?_⟩) ?_
        rotate_left; · intro w0 _; go_simp; try with_reducible rfl
        try simp only [Act.put, List.setIfInBounds_toArray, List.set_cons_zero, List.set_cons_succ]
        refine Go_.take (i := 2) (oi := ⟨some 18, Op.load 3 (Operand.tmp 17), 3, _, _, none⟩) (v := ?_) rfl (by kernel_rfl) (by kernel_rfl) (by kernel_rfl) rfl (fun _ _ _ h => h) (Or.inl ⟨by rfl, ?_⟩) ?_
        rotate_left; · intro w0 hS; obtain ⟨c0, c1, c2, c3⟩ := hS.four; go_simp; try with_reducible rfl
        try simp only [Act.put, List.setIfInBounds_toArray, List.set_cons_zero, List.set_cons_succ]
        refine Go_.take (i := 3) (oi := ⟨some 19, Op.move (Operand.tmp 4), 62, _, _, none⟩) (v := ?_) rfl (by kernel_rfl) (by kernel_rfl) (by kernel_rfl) rfl (fun _ _ _ h => h) (Or.inl ⟨by rfl, ?_⟩) ?_
        rotate_left; · intro w0 _; go_simp; try with_reducible rfl
        try simp only [Act.put, List.setIfInBounds_toArray, List.set_cons_zero, List.set_cons_succ]
        refine Go_.take (i := 4) (oi := ⟨some 20, Op.indexAddr 62 (Operand.tmp 19) (Operand.const (Value.int IntKind.i64 1)), 0, _, _, none⟩) (v := ?_) rfl (by kernel_rfl) (by kernel_rfl) (by kernel_rfl) rfl (fun _ _ _ h => h) (Or.inl ⟨by rfl, ?_⟩) ?_
        rotate_left; · intro w0 _; go_simp; try with_reducible rfl
        try simp only [Act.put, List.setIfInBounds_toArray, List.set_cons_zero, List.set_cons_succ]
        refine Go_.take (i := 5) (oi := ⟨some 21, Op.load 3 (Operand.tmp 20), 3, _, _, none⟩) (v := ?_) rfl (by kernel_rfl) (by kernel_rfl) (by kernel_rfl) rfl (fun _ _ _ h => h) (Or.inl ⟨by rfl, ?_⟩) ?_
        rotate_left; · intro w0 hS; obtain ⟨c0, c1, c2, c3⟩ := hS.four; go_simp; try with_reducible rfl
        try simp only [Act.put, List.setIfInBounds_toArray, List.set_cons_zero, List.set_cons_succ]
        refine Go_.take (i := 6) (oi := ⟨some 22, Op.move (Operand.tmp 4), 62, _, _, none⟩) (v := ?_) rfl (by kernel_rfl) (by kernel_rfl) (by kernel_rfl) rfl (fun _ _ _ h => h) (Or.inl ⟨by rfl, ?_⟩) ?_
        rotate_left; · intro w0 _; go_simp; try with_reducible rfl
        try simp only [Act.put, List.setIfInBounds_toArray, List.set_cons_zero, List.set_cons_succ]
        refine Go_.take (i := 7) (oi := ⟨some 23, Op.indexAddr 62 (Operand.tmp 22) (Operand.const (Value.int IntKind.i64 2)), 0, _, _, none⟩) (v := ?_) rfl (by kernel_rfl) (by kernel_rfl) (by kernel_rfl) rfl (fun _ _ _ h => h) (Or.inl ⟨by rfl, ?_⟩) ?_
        rotate_left; · intro w0 _; go_simp; try with_reducible rfl
        try simp only [Act.put, List.setIfInBounds_toArray, List.set_cons_zero, List.set_cons_succ]
        refine Go_.take (i := 8) (oi := ⟨some 24, Op.load 3 (Operand.tmp 23), 3, _, _, none⟩) (v := ?_) rfl (by kernel_rfl) (by kernel_rfl) (by kernel_rfl) rfl (fun _ _ _ h => h) (Or.inl ⟨by rfl, ?_⟩) ?_
        rotate_left; · intro w0 hS; obtain ⟨c0, c1, c2, c3⟩ := hS.four; go_simp; try with_reducible rfl
        try simp only [Act.put, List.setIfInBounds_toArray, List.set_cons_zero, List.set_cons_succ]
        refine Go_.take (i := 9) (oi := ⟨some 25, Op.move (Operand.tmp 4), 62, _, _, none⟩) (v := ?_) rfl (by kernel_rfl) (by kernel_rfl) (by kernel_rfl) rfl (fun _ _ _ h => h) (Or.inl ⟨by rfl, ?_⟩) ?_
        rotate_left; · intro w0 _; go_simp; try with_reducible rfl
        try simp only [Act.put, List.setIfInBounds_toArray, List.set_cons_zero, List.set_cons_succ]
        refine Go_.take (i := 10) (oi := ⟨some 26, Op.indexAddr 62 (Operand.tmp 25) (Operand.const (Value.int IntKind.i64 3)), 0, _, _, none⟩) (v := ?_) rfl (by kernel_rfl) (by kernel_rfl) (by kernel_rfl) rfl (fun _ _ _ h => h) (Or.inl ⟨by rfl, ?_⟩) ?_
        rotate_left; · intro w0 _; go_simp; try with_reducible rfl
        try simp only [Act.put, List.setIfInBounds_toArray, List.set_cons_zero, List.set_cons_succ]
        refine Go_.take (i := 11) (oi := ⟨some 27, Op.load 3 (Operand.tmp 26), 3, _, _, none⟩) (v := ?_) rfl (by kernel_rfl) (by kernel_rfl) (by kernel_rfl) rfl (fun _ _ _ h => h) (Or.inl ⟨by rfl, ?_⟩) ?_
        rotate_left; · intro w0 hS; obtain ⟨c0, c1, c2, c3⟩ := hS.four; go_simp; try with_reducible rfl
        try simp only [Act.put, List.setIfInBounds_toArray, List.set_cons_zero, List.set_cons_succ]
        refine Go_.take (i := 12) (oi := ⟨some 28, Op.move (Operand.tmp 4), 62, _, _, none⟩) (v := ?_) rfl (by kernel_rfl) (by kernel_rfl) (by kernel_rfl) rfl (fun _ _ _ h => h) (Or.inl ⟨by rfl, ?_⟩) ?_
        rotate_left; · intro w0 _; go_simp; try with_reducible rfl
        try simp only [Act.put, List.setIfInBounds_toArray, List.set_cons_zero, List.set_cons_succ]
        refine Go_.take (i := 13) (oi := ⟨some 29, Op.indexAddr 62 (Operand.tmp 28) (Operand.const (Value.int IntKind.i64 0)), 0, _, _, none⟩) (v := ?_) rfl (by kernel_rfl) (by kernel_rfl) (by kernel_rfl) rfl (fun _ _ _ h => h) (Or.inl ⟨by rfl, ?_⟩) ?_
        rotate_left; · intro w0 _; go_simp; try with_reducible rfl
        try simp only [Act.put, List.setIfInBounds_toArray, List.set_cons_zero, List.set_cons_succ]
        refine Go_.take (i := 14) (oi := ⟨some 30, Op.load 3 (Operand.tmp 29), 3, _, _, none⟩) (v := ?_) rfl (by kernel_rfl) (by kernel_rfl) (by kernel_rfl) rfl (fun _ _ _ h => h) (Or.inl ⟨by rfl, ?_⟩) ?_
        rotate_left; · intro w0 hS; obtain ⟨c0, c1, c2, c3⟩ := hS.four; go_simp; try with_reducible rfl
        try simp only [Act.put, List.setIfInBounds_toArray, List.set_cons_zero, List.set_cons_succ]
        refine Go_.take (i := 15) (oi := ⟨some 31, Op.indexAddr 32 (Operand.tmp 1) (Operand.tmp 30), 0, _, _, none⟩) (v := ?_) rfl (by kernel_rfl) (by kernel_rfl) (by kernel_rfl) rfl (fun _ _ _ h => h) (Or.inl ⟨by rfl, ?_⟩) ?_
        rotate_left; · intro w0 _; go_simp; try with_reducible rfl
        try simp only [Act.put, List.setIfInBounds_toArray, List.set_cons_zero, List.set_cons_succ]
        refine Go_.takeB (i := 16) (oi := ⟨some 32, Op.load 22 (Operand.tmp 31), 22, _, _, none⟩) (v := ?_) rfl (by kernel_rfl) (by kernel_rfl) (by kernel_rfl) rfl (by kernel_rfl) (fun _ _ _ h => h) (Or.inl ⟨by rfl, ?_⟩) ?_
        rotate_left; · intro w0 hS; obtain ⟨d0, d1, d2, d3, d4, d5, d6, d7⟩ := hS.2.eight; go_simp; try with_reducible rfl
        try simp only [Act.put, List.setIfInBounds_toArray, List.set_cons_zero, List.set_cons_succ]
        refine Go_.take (i := 17) (oi := ⟨some 33, Op.move (Operand.tmp 4), 62, _, _, none⟩) (v := ?_) rfl (by kernel_rfl) (by kernel_rfl) (by kernel_rfl) rfl (fun _ _ _ h => h) (Or.inl ⟨by rfl, ?_⟩) ?_
        rotate_left; · intro w0 _; go_simp; try with_reducible rfl
        try simp only [Act.put, List.setIfInBounds_toArray, List.set_cons_zero, List.set_cons_succ]
        refine Go_.take (i := 18) (oi := ⟨some 34, Op.indexAddr 62 (Operand.tmp 33) (Operand.const (Value.int IntKind.i64 1)), 0, _, _, none⟩) (v := ?_) rfl (by kernel_rfl) (by kernel_rfl) (by kernel_rfl) rfl (fun _ _ _ h => h) (Or.inl ⟨by rfl, ?_⟩) ?_
        rotate_left; · intro w0 _; go_simp; try with_reducible rfl
        try simp only [Act.put, List.setIfInBounds_toArray, List.set_cons_zero, List.set_cons_succ]
        refine Go_.take (i := 19) (oi := ⟨some 35, Op.load 3 (Operand.tmp 34), 3, _, _, none⟩) (v := ?_) rfl (by kernel_rfl) (by kernel_rfl) (by kernel_rfl) rfl (fun _ _ _ h => h) (Or.inl ⟨by rfl, ?_⟩) ?_
        rotate_left; · intro w0 hS; obtain ⟨c0, c1, c2, c3⟩ := hS.four; go_simp; try with_reducible rfl
        try simp only [Act.put, List.setIfInBounds_toArray, List.set_cons_zero, List.set_cons_succ]
        refine Go_.take (i := 20) (oi := ⟨some 36, Op.indexAddr 32 (Operand.tmp 1) (Operand.tmp 35), 0, _, _, none⟩) (v := ?_) rfl (by kernel_rfl) (by kernel_rfl) (by kernel_rfl) rfl (fun _ _ _ h => h) (Or.inl ⟨by rfl, ?_⟩) ?_
        rotate_left; · intro w0 _; go_simp; try with_reducible rfl
        try simp only [Act.put, List.setIfInBounds_toArray, List.set_cons_zero, List.set_cons_succ]
        refine Go_.takeB (i := 21) (oi := ⟨some 37, Op.load 22 (Operand.tmp 36), 22, _, _, none⟩) (v := ?_) rfl (by kernel_rfl) (by kernel_rfl) (by kernel_rfl) rfl (by kernel_rfl) (fun _ _ _ h => h) (Or.inl ⟨by rfl, ?_⟩) ?_
        rotate_left; · intro w0 hS; obtain ⟨d0, d1, d2, d3, d4, d5, d6, d7⟩ := hS.2.eight; go_simp; try with_reducible rfl
        try simp only [Act.put, List.setIfInBounds_toArray, List.set_cons_zero, List.set_cons_succ]
        refine Go_.take (i := 22) (oi := ⟨some 38, Op.move (Operand.tmp 4), 62, _, _, none⟩) (v := ?_) rfl (by kernel_rfl) (by kernel_rfl) (by kernel_rfl) rfl (fun _ _ _ h => h) (Or.inl ⟨by rfl, ?_⟩) ?_
        rotate_left; · intro w0 _; go_simp; try with_reducible rfl
        try simp only [Act.put, List.setIfInBounds_toArray, List.set_cons_zero, List.set_cons_succ]
        refine Go_.take (i := 23) (oi := ⟨some 39, Op.indexAddr 62 (Operand.tmp 38) (Operand.const (Value.int IntKind.i64 2)), 0, _, _, none⟩) (v := ?_) rfl (by kernel_rfl) (by kernel_rfl) (by kernel_rfl) rfl (fun _ _ _ h => h) (Or.inl ⟨by rfl, ?_⟩) ?_
        rotate_left; · intro w0 _; go_simp; try with_reducible rfl
        try simp only [Act.put, List.setIfInBounds_toArray, List.set_cons_zero, List.set_cons_succ]
        refine Go_.take (i := 24) (oi := ⟨some 40, Op.load 3 (Operand.tmp 39), 3, _, _, none⟩) (v := ?_) rfl (by kernel_rfl) (by kernel_rfl) (by kernel_rfl) rfl (fun _ _ _ h => h) (Or.inl ⟨by rfl, ?_⟩) ?_
        rotate_left; · intro w0 hS; obtain ⟨c0, c1, c2, c3⟩ := hS.four; go_simp; try with_reducible rfl
        try simp only [Act.put, List.setIfInBounds_toArray, List.set_cons_zero, List.set_cons_succ]
        refine Go_.take (i := 25) (oi := ⟨some 41, Op.indexAddr 32 (Operand.tmp 1) (Operand.tmp 40), 0, _, _, none⟩) (v := ?_) rfl (by kernel_rfl) (by kernel_rfl) (by kernel_rfl) rfl (fun _ _ _ h => h) (Or.inl ⟨by rfl, ?_⟩) ?_
        rotate_left; · intro w0 _; go_simp; try with_reducible rfl
        try simp only [Act.put, List.setIfInBounds_toArray, List.set_cons_zero, List.set_cons_succ]
        refine Go_.takeB (i := 26) (oi := ⟨some 42, Op.load 22 (Operand.tmp 41), 22, _, _, none⟩) (v := ?_) rfl (by kernel_rfl) (by kernel_rfl) (by kernel_rfl) rfl (by kernel_rfl) (fun _ _ _ h => h) (Or.inl ⟨by rfl, ?_⟩) ?_
        rotate_left; · intro w0 hS; obtain ⟨d0, d1, d2, d3, d4, d5, d6, d7⟩ := hS.2.eight; go_simp; try with_reducible rfl
        try simp only [Act.put, List.setIfInBounds_toArray, List.set_cons_zero, List.set_cons_succ]
        refine Go_.take (i := 27) (oi := ⟨some 43, Op.move (Operand.tmp 4), 62, _, _, none⟩) (v := ?_) rfl (by kernel_rfl) (by kernel_rfl) (by kernel_rfl) rfl (fun _ _ _ h => h) (Or.inl ⟨by rfl, ?_⟩) ?_
        rotate_left; · intro w0 _; go_simp; try with_reducible rfl
        try simp only [Act.put, List.setIfInBounds_toArray, List.set_cons_zero, List.set_cons_succ]
        refine Go_.take (i := 28) (oi := ⟨some 44, Op.indexAddr 62 (Operand.tmp 43) (Operand.const (Value.int IntKind.i64 3)), 0, _, _, none⟩) (v := ?_) rfl (by kernel_rfl) (by kernel_rfl) (by kernel_rfl) rfl (fun _ _ _ h => h) (Or.inl ⟨by rfl, ?_⟩) ?_
        rotate_left; · intro w0 _; go_simp; try with_reducible rfl
        try simp only [Act.put, List.setIfInBounds_toArray, List.set_cons_zero, List.set_cons_succ]
        refine Go_.take (i := 29) (oi := ⟨some 45, Op.load 3 (Operand.tmp 44), 3, _, _, none⟩) (v := ?_) rfl (by kernel_rfl) (by kernel_rfl) (by kernel_rfl) rfl (fun _ _ _ h => h) (Or.inl ⟨by rfl, ?_⟩) ?_
        rotate_left; · intro w0 hS; obtain ⟨c0, c1, c2, c3⟩ := hS.four; go_simp; try with_reducible rfl
        try simp only [Act.put, List.setIfInBounds_toArray, List.set_cons_zero, List.set_cons_succ]
        refine Go_.take (i := 30) (oi := ⟨some 46, Op.indexAddr 32 (Operand.tmp 1) (Operand.tmp 45), 0, _, _, none⟩) (v := ?_) rfl (by kernel_rfl) (by kernel_rfl) (by kernel_rfl) rfl (fun _ _ _ h => h) (Or.inl ⟨by rfl, ?_⟩) ?_
        rotate_left; · intro w0 _; go_simp; try with_reducible rfl
        try simp only [Act.put, List.setIfInBounds_toArray, List.set_cons_zero, List.set_cons_succ]
        refine Go_.takeB (i := 31) (oi := ⟨some 47, Op.load 22 (Operand.tmp 46), 22, _, _, none⟩) (v := ?_) rfl (by kernel_rfl) (by kernel_rfl) (by kernel_rfl) rfl (by kernel_rfl) (fun _ _ _ h => h) (Or.inl ⟨by rfl, ?_⟩) ?_
        rotate_left; · intro w0 hS; obtain ⟨d0, d1, d2, d3, d4, d5, d6, d7⟩ := hS.2.eight; go_simp; try with_reducible rfl
        try simp only [Act.put, List.setIfInBounds_toArray, List.set_cons_zero, List.set_cons_succ]
        refine Go_.step (i := 32) (o := ⟨some 48, Op.call { callee := Callee.value (Operand.func 44), args := #[Operand.tmp 32, Operand.tmp 37, Operand.tmp 42, Operand.tmp 47], argTypes := #[22, 22, 22, 22] }, 65, _, _, none⟩) (by kernel_rfl) rfl (fun K hT hK => ?_)
        have hB := Holds.undrew (hT.2 (by kernel_rfl))
        have hB8 := hB.eight
        have hBf := hB.eightFree
        go_simp
        refine (rquarter_any _ _ _ _ _).mono ?_
        rintro e w' ⟨rfl, rfl⟩
        refine hK.out _ _ (Till.late (by kernel_rfl) hT.1) ?_
        clear hT hK K
        refine Go_.take (i := 33) (oi := ⟨some 15, Op.move (Operand.tmp 48), 65, _, _, none⟩) (v := ?_) rfl (by kernel_rfl) (by kernel_rfl) (by kernel_rfl) rfl (fun _ _ _ h => h) (Or.inl ⟨by rfl, ?_⟩) ?_
        rotate_left; · intro w0 _; go_simp; try with_reducible rfl
        try simp only [Act.put, List.setIfInBounds_toArray, List.set_cons_zero, List.set_cons_succ]
        refine Go_.take (i := 34) (oi := ⟨some 49, Op.extract (Operand.tmp 15) 0, 22, _, _, none⟩) (v := ?_) rfl (by kernel_rfl) (by kernel_rfl) (by kernel_rfl) rfl (fun _ _ _ h => h) (Or.inl ⟨by rfl, ?_⟩) ?_
        rotate_left; · intro w0 _; go_simp; try with_reducible rfl
        try simp only [Act.put, List.setIfInBounds_toArray, List.set_cons_zero, List.set_cons_succ]
        refine Go_.take (i := 35) (oi := ⟨some 50, Op.extract (Operand.tmp 15) 1, 22, _, _, none⟩) (v := ?_) rfl (by kernel_rfl) (by kernel_rfl) (by kernel_rfl) rfl (fun _ _ _ h => h) (Or.inl ⟨by rfl, ?_⟩) ?_
        rotate_left; · intro w0 _; go_simp; try with_reducible rfl
        try simp only [Act.put, List.setIfInBounds_toArray, List.set_cons_zero, List.set_cons_succ]
        refine Go_.take (i := 36) (oi := ⟨some 51, Op.extract (Operand.tmp 15) 2, 22, _, _, none⟩) (v := ?_) rfl (by kernel_rfl) (by kernel_rfl) (by kernel_rfl) rfl (fun _ _ _ h => h) (Or.inl ⟨by rfl, ?_⟩) ?_
        rotate_left; · intro w0 _; go_simp; try with_reducible rfl
        try simp only [Act.put, List.setIfInBounds_toArray, List.set_cons_zero, List.set_cons_succ]
        refine Go_.take (i := 37) (oi := ⟨some 52, Op.extract (Operand.tmp 15) 3, 22, _, _, none⟩) (v := ?_) rfl (by kernel_rfl) (by kernel_rfl) (by kernel_rfl) rfl (fun _ _ _ h => h) (Or.inl ⟨by rfl, ?_⟩) ?_
        rotate_left; · intro w0 _; go_simp; try with_reducible rfl
        try simp only [Act.put, List.setIfInBounds_toArray, List.set_cons_zero, List.set_cons_succ]
        refine Go_.take (i := 38) (oi := ⟨some 53, Op.indexAddr 32 (Operand.tmp 1) (Operand.tmp 18), 0, _, _, none⟩) (v := ?_) rfl (by kernel_rfl) (by kernel_rfl) (by kernel_rfl) rfl (fun _ _ _ h => h) (Or.inl ⟨by rfl, ?_⟩) ?_
        rotate_left; · intro w0 _; go_simp; try with_reducible rfl
        try simp only [Act.put, List.setIfInBounds_toArray, List.set_cons_zero, List.set_cons_succ]
        refine Go_.step (i := 39) (o := ⟨none, Op.store 22 (Operand.tmp 53) (Operand.tmp 49), 0, _, _, none⟩) (by kernel_rfl) rfl (fun K hT hK => ?_)
        go_simp
        refine hK.out _ _ (Till.late (by kernel_rfl) (Holds.far (p := ⟨w.heap.size, _, none⟩) hT.1 hne _)) ?_
        clear hT hK K
        refine Go_.take (i := 40) (oi := ⟨some 54, Op.indexAddr 32 (Operand.tmp 1) (Operand.tmp 21), 0, _, _, none⟩) (v := ?_) rfl (by kernel_rfl) (by kernel_rfl) (by kernel_rfl) rfl (fun _ _ _ h => h) (Or.inl ⟨by rfl, ?_⟩) ?_
        rotate_left; · intro w0 _; go_simp; try with_reducible rfl
        try simp only [Act.put, List.setIfInBounds_toArray, List.set_cons_zero, List.set_cons_succ]
        refine Go_.step (i := 41) (o := ⟨none, Op.store 22 (Operand.tmp 54) (Operand.tmp 50), 0, _, _, none⟩) (by kernel_rfl) rfl (fun K hT hK => ?_)
        go_simp
        refine hK.out _ _ (Till.late (by kernel_rfl) (Holds.far (p := ⟨w.heap.size, _, none⟩) hT.1 hne _)) ?_
        clear hT hK K
        refine Go_.take (i := 42) (oi := ⟨some 55, Op.indexAddr 32 (Operand.tmp 1) (Operand.tmp 24), 0, _, _, none⟩) (v := ?_) rfl (by kernel_rfl) (by kernel_rfl) (by kernel_rfl) rfl (fun _ _ _ h => h) (Or.inl ⟨by rfl, ?_⟩) ?_
        rotate_left; · intro w0 _; go_simp; try with_reducible rfl
        try simp only [Act.put, List.setIfInBounds_toArray, List.set_cons_zero, List.set_cons_succ]
        refine Go_.step (i := 43) (o := ⟨none, Op.store 22 (Operand.tmp 55) (Operand.tmp 51), 0, _, _, none⟩) (by kernel_rfl) rfl (fun K hT hK => ?_)
        go_simp
        refine hK.out _ _ (Till.late (by kernel_rfl) (Holds.far (p := ⟨w.heap.size, _, none⟩) hT.1 hne _)) ?_
        clear hT hK K
        refine Go_.take (i := 44) (oi := ⟨some 56, Op.indexAddr 32 (Operand.tmp 1) (Operand.tmp 27), 0, _, _, none⟩) (v := ?_) rfl (by kernel_rfl) (by kernel_rfl) (by kernel_rfl) rfl (fun _ _ _ h => h) (Or.inl ⟨by rfl, ?_⟩) ?_
        rotate_left; · intro w0 _; go_simp; try with_reducible rfl
        try simp only [Act.put, List.setIfInBounds_toArray, List.set_cons_zero, List.set_cons_succ]
        refine Go_.step (i := 45) (o := ⟨none, Op.store 22 (Operand.tmp 56) (Operand.tmp 52), 0, _, _, none⟩) (by kernel_rfl) rfl (fun K hT hK => ?_)
        go_simp
        refine hK.out _ _ (Till.late (by kernel_rfl) (Holds.far (p := ⟨w.heap.size, _, none⟩) hT.1 hne _)) ?_
        clear hT hK K
        refine Go_.done (by kernel_rfl) ?_
        go_wp2
        go_roundw
        case rel => exact ⟨n + 1, by omega, by go_num, hk2.quad0 _ _ _ _ _ _ _ _ ((vals_mx3 _).trans (by rw [mxn_r3 n k hc])), hz2.quad0Far hne2 _ _ _ _ _ _ _ _, below_quad0 hb2 (Nat.le_refl _) _ _ _ _ _ _ _ _⟩
        case measure => simp [intOf]; omega
    · obtain rfl : n = 16 := by omega
      have k8 := hk.eight
      have kf := hk.eightFree
      have z8 := hz.eight
      have zf := hz.eightFree
      go_wp2_with fail
      refine wp_loop_rounds 9 ?_
      iterate 9 (rw [rounds_succ]; go_wp2)
      refine bodyPost_ret (v := .agg (mix k).vals.toArray) (by simp [results, Try.results45, go_sem, z8]; exact vals_addr _) rfl ⟨rfl, ?_⟩
      repeat (refine Below.setCell ?_ (by simp) _)
      exact hb
end Go.Proofs.Ytcdklmicbbcknaa
