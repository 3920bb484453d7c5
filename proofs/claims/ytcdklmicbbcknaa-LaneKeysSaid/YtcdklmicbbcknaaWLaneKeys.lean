/-
  steamerlaw14.LaneKeys answers true and leaves old memory as it was: by a walk of its text (printed by lanekeys.py).
-/
import Derived.Test.YtcdklmicbbcknaaWLaneBack
namespace Go.Proofs.Ytcdklmicbbcknaa
open Go Go.RowKit
section
variable {g g2 : Nat} {v0 v1 v2 v3 v4 v5 v6 v7 u0 u1 u2 u3 u4 u5 u6 u7 : Value} {w0 w1 w2 : World} {A A3 A4 A5 A6 : Option Addr} {l l3 l4 l5 l6 : List UInt8}
theorem env16_keep (h : w1.cell? ⟨g, 0, none⟩ = some v0 ∧ w1.cell? ⟨g, 1, none⟩ = some v1 ∧ w1.cell? ⟨g, 2, none⟩ = some v2 ∧ w1.cell? ⟨g, 3, none⟩ = some v3 ∧ w1.cell? ⟨g, 4, none⟩ = some v4 ∧ w1.cell? ⟨g, 5, none⟩ = some v5 ∧ w1.cell? ⟨g, 6, none⟩ = some v6 ∧ w1.cell? ⟨g, 7, none⟩ = some v7 ∧ w1.cell? ⟨g2, 0, none⟩ = some u0 ∧ w1.cell? ⟨g2, 1, none⟩ = some u1 ∧ w1.cell? ⟨g2, 2, none⟩ = some u2 ∧ w1.cell? ⟨g2, 3, none⟩ = some u3 ∧ w1.cell? ⟨g2, 4, none⟩ = some u4 ∧ w1.cell? ⟨g2, 5, none⟩ = some u5 ∧ w1.cell? ⟨g2, 6, none⟩ = some u6 ∧ w1.cell? ⟨g2, 7, none⟩ = some u7 ∧ Bts w1 A l ∧ Bts w1 A3 l3 ∧ Bts w1 A4 l4 ∧ Kp w0 A l w1) (hb : Below w1.heap.size w1 w2) : w2.cell? ⟨g, 0, none⟩ = some v0 ∧ w2.cell? ⟨g, 1, none⟩ = some v1 ∧ w2.cell? ⟨g, 2, none⟩ = some v2 ∧ w2.cell? ⟨g, 3, none⟩ = some v3 ∧ w2.cell? ⟨g, 4, none⟩ = some v4 ∧ w2.cell? ⟨g, 5, none⟩ = some v5 ∧ w2.cell? ⟨g, 6, none⟩ = some v6 ∧ w2.cell? ⟨g, 7, none⟩ = some v7 ∧ w2.cell? ⟨g2, 0, none⟩ = some u0 ∧ w2.cell? ⟨g2, 1, none⟩ = some u1 ∧ w2.cell? ⟨g2, 2, none⟩ = some u2 ∧ w2.cell? ⟨g2, 3, none⟩ = some u3 ∧ w2.cell? ⟨g2, 4, none⟩ = some u4 ∧ w2.cell? ⟨g2, 5, none⟩ = some u5 ∧ w2.cell? ⟨g2, 6, none⟩ = some u6 ∧ w2.cell? ⟨g2, 7, none⟩ = some u7 ∧ Bts w2 A l ∧ Bts w2 A3 l3 ∧ Bts w2 A4 l4 ∧ Kp w0 A l w2 := by
  obtain ⟨h0, h1, h2, h3, h4, h5, h6, h7, h8, h9, h10, h11, h12, h13, h14, h15, hA, hB3, hB4, hk⟩ := h
  have hg : g < w1.heap.size := World.block_lt_of_cell? w1 _ h0
  have hg2 : g2 < w1.heap.size := World.block_lt_of_cell? w1 _ h8
  have hc := (bcell hb).1
  exact ⟨(hc _ _ hg).trans h0, (hc _ _ hg).trans h1, (hc _ _ hg).trans h2, (hc _ _ hg).trans h3, (hc _ _ hg).trans h4, (hc _ _ hg).trans h5, (hc _ _ hg).trans h6, (hc _ _ hg).trans h7, (hc _ _ hg2).trans h8, (hc _ _ hg2).trans h9, (hc _ _ hg2).trans h10, (hc _ _ hg2).trans h11, (hc _ _ hg2).trans h12, (hc _ _ hg2).trans h13, (hc _ _ hg2).trans h14, (hc _ _ hg2).trans h15, hA.below hb, hB3.below hb, hB4.below hb, hk.next hb⟩
theorem env16_kp (h : w1.cell? ⟨g, 0, none⟩ = some v0 ∧ w1.cell? ⟨g, 1, none⟩ = some v1 ∧ w1.cell? ⟨g, 2, none⟩ = some v2 ∧ w1.cell? ⟨g, 3, none⟩ = some v3 ∧ w1.cell? ⟨g, 4, none⟩ = some v4 ∧ w1.cell? ⟨g, 5, none⟩ = some v5 ∧ w1.cell? ⟨g, 6, none⟩ = some v6 ∧ w1.cell? ⟨g, 7, none⟩ = some v7 ∧ w1.cell? ⟨g2, 0, none⟩ = some u0 ∧ w1.cell? ⟨g2, 1, none⟩ = some u1 ∧ w1.cell? ⟨g2, 2, none⟩ = some u2 ∧ w1.cell? ⟨g2, 3, none⟩ = some u3 ∧ w1.cell? ⟨g2, 4, none⟩ = some u4 ∧ w1.cell? ⟨g2, 5, none⟩ = some u5 ∧ w1.cell? ⟨g2, 6, none⟩ = some u6 ∧ w1.cell? ⟨g2, 7, none⟩ = some u7 ∧ Bts w1 A l ∧ Bts w1 A3 l3 ∧ Bts w1 A4 l4 ∧ Kp w0 A l w1) : Kp w0 A l w1 ∧ Bts w1 A3 l3 ∧ Bts w1 A4 l4 := by
  obtain ⟨h0, h1, h2, h3, h4, h5, h6, h7, h8, h9, h10, h11, h12, h13, h14, h15, hA, hB3, hB4, hk⟩ := h
  exact ⟨hk, hB3, hB4⟩
theorem env16_with (h : w1.cell? ⟨g, 0, none⟩ = some v0 ∧ w1.cell? ⟨g, 1, none⟩ = some v1 ∧ w1.cell? ⟨g, 2, none⟩ = some v2 ∧ w1.cell? ⟨g, 3, none⟩ = some v3 ∧ w1.cell? ⟨g, 4, none⟩ = some v4 ∧ w1.cell? ⟨g, 5, none⟩ = some v5 ∧ w1.cell? ⟨g, 6, none⟩ = some v6 ∧ w1.cell? ⟨g, 7, none⟩ = some v7 ∧ w1.cell? ⟨g2, 0, none⟩ = some u0 ∧ w1.cell? ⟨g2, 1, none⟩ = some u1 ∧ w1.cell? ⟨g2, 2, none⟩ = some u2 ∧ w1.cell? ⟨g2, 3, none⟩ = some u3 ∧ w1.cell? ⟨g2, 4, none⟩ = some u4 ∧ w1.cell? ⟨g2, 5, none⟩ = some u5 ∧ w1.cell? ⟨g2, 6, none⟩ = some u6 ∧ w1.cell? ⟨g2, 7, none⟩ = some u7 ∧ Bts w1 A l ∧ Bts w1 A3 l3 ∧ Bts w1 A4 l4 ∧ Kp w0 A l w1) (hb : Below w1.heap.size w1 w2) (n3 : Bts w2 A5 l5) (n4 : Bts w2 A6 l6) : w2.cell? ⟨g, 0, none⟩ = some v0 ∧ w2.cell? ⟨g, 1, none⟩ = some v1 ∧ w2.cell? ⟨g, 2, none⟩ = some v2 ∧ w2.cell? ⟨g, 3, none⟩ = some v3 ∧ w2.cell? ⟨g, 4, none⟩ = some v4 ∧ w2.cell? ⟨g, 5, none⟩ = some v5 ∧ w2.cell? ⟨g, 6, none⟩ = some v6 ∧ w2.cell? ⟨g, 7, none⟩ = some v7 ∧ w2.cell? ⟨g2, 0, none⟩ = some u0 ∧ w2.cell? ⟨g2, 1, none⟩ = some u1 ∧ w2.cell? ⟨g2, 2, none⟩ = some u2 ∧ w2.cell? ⟨g2, 3, none⟩ = some u3 ∧ w2.cell? ⟨g2, 4, none⟩ = some u4 ∧ w2.cell? ⟨g2, 5, none⟩ = some u5 ∧ w2.cell? ⟨g2, 6, none⟩ = some u6 ∧ w2.cell? ⟨g2, 7, none⟩ = some u7 ∧ Bts w2 A l ∧ Bts w2 A5 l5 ∧ Bts w2 A6 l6 ∧ Kp w0 A l w2 := by
  obtain ⟨h0, h1, h2, h3, h4, h5, h6, h7, h8, h9, h10, h11, h12, h13, h14, h15, hA, hB3, hB4, hk⟩ := env16_keep h hb
  exact ⟨h0, h1, h2, h3, h4, h5, h6, h7, h8, h9, h10, h11, h12, h13, h14, h15, hA, n3, n4, hk⟩
theorem env16_start {t t2 : TypeId} (h : Holds w1 g t [v0, v1, v2, v3, v4, v5, v6, v7]) (h' : Holds w1 g2 t2 [u0, u1, u2, u3, u4, u5, u6, u7]) (hk : Kp w0 A l w1) : w1.cell? ⟨g, 0, none⟩ = some v0 ∧ w1.cell? ⟨g, 1, none⟩ = some v1 ∧ w1.cell? ⟨g, 2, none⟩ = some v2 ∧ w1.cell? ⟨g, 3, none⟩ = some v3 ∧ w1.cell? ⟨g, 4, none⟩ = some v4 ∧ w1.cell? ⟨g, 5, none⟩ = some v5 ∧ w1.cell? ⟨g, 6, none⟩ = some v6 ∧ w1.cell? ⟨g, 7, none⟩ = some v7 ∧ w1.cell? ⟨g2, 0, none⟩ = some u0 ∧ w1.cell? ⟨g2, 1, none⟩ = some u1 ∧ w1.cell? ⟨g2, 2, none⟩ = some u2 ∧ w1.cell? ⟨g2, 3, none⟩ = some u3 ∧ w1.cell? ⟨g2, 4, none⟩ = some u4 ∧ w1.cell? ⟨g2, 5, none⟩ = some u5 ∧ w1.cell? ⟨g2, 6, none⟩ = some u6 ∧ w1.cell? ⟨g2, 7, none⟩ = some u7 ∧ Bts w1 A l ∧ Bts w1 none [] ∧ Bts w1 none [] ∧ Kp w0 A l w1 := by
  obtain ⟨h0, h1, h2, h3, h4, h5, h6, h7⟩ := h.eight
  obtain ⟨h8, h9, h10, h11, h12, h13, h14, h15⟩ := h'.eight
  exact ⟨h0, h1, h2, h3, h4, h5, h6, h7, h8, h9, h10, h11, h12, h13, h14, h15, hk.2.2, Bts.nil _ _, Bts.nil _ _, hk⟩
end
def Ne8 (a0 a1 a2 a3 a4 a5 a6 a7 b0 b1 b2 b3 b4 b5 b6 b7 : Int) : Prop := ¬ [a0, a1, a2, a3, a4, a5, a6, a7] = [b0, b1, b2, b3, b4, b5, b6, b7]
theorem eql_28_ne (w : World) (a0 a1 a2 a3 a4 a5 a6 a7 b0 b1 b2 b3 b4 b5 b6 b7 : Int) (h : Ne8 a0 a1 a2 a3 a4 a5 a6 a7 b0 b1 b2 b3 b4 b5 b6 b7) : (binOp .eql 28 (.agg #[.int .u32 a0, .int .u32 a1, .int .u32 a2, .int .u32 a3, .int .u32 a4, .int .u32 a5, .int .u32 a6, .int .u32 a7]) (.agg #[.int .u32 b0, .int .u32 b1, .int .u32 b2, .int .u32 b3, .int .u32 b4, .int .u32 b5, .int .u32 b6, .int .u32 b7])).run Try.prog w = .ok (.bool false) w := by
  rw [eql_28, decide_eq_false h]
theorem ne8_of {k m : K8} (h : k ≠ m) : Ne8 (W k.k0) (W k.k1) (W k.k2) (W k.k3) (W k.k4) (W k.k5) (W k.k6) (W k.k7) (W m.k0) (W m.k1) (W m.k2) (W m.k3) (W m.k4) (W m.k5) (W m.k6) (W m.k7) := by
  intro e
  simp only [List.cons.injEq, and_true] at e
  obtain ⟨e0, e1, e2, e3, e4, e5, e6, e7⟩ := e
  refine h ?_
  cases k; cases m
  simp only [K8.mk.injEq]
  exact ⟨W_inj e0, W_inj e1, W_inj e2, W_inj e3, W_inj e4, W_inj e5, W_inj e6, W_inj e7⟩
theorem lk_fin {k m : K8} {p q : Int} {l r5 r13 r25 r26 : List UInt8} (h5 : r5 = xorL (streamL k p l.length) l) (h13 : r13 = xorL (streamL m q r5.length) r5) (h25 : r25 = xorL (streamL m q r13.length) r13) (h26 : r26 = xorL (streamL k p r25.length) r25) : r26 = l := by
  have e25 : r25 = r5 := by rw [h25, h13, xor_twice]
  rw [h26, e25, h5, xor_twice]
theorem lk_comm {k m : K8} {p q : Int} {l r5 r13 r6 r14 : List UInt8} (h5 : r5 = xorL (streamL k p l.length) l) (h13 : r13 = xorL (streamL m q r5.length) r5) (h6 : r6 = xorL (streamL m q l.length) l) (h14 : r14 = xorL (streamL k p r6.length) r6) : r14 = r13 := by
  rw [h14, h13, h6, h5, xorL_len2, xorL_len2, xorL_comm _ _ _ (streamL_len _ _ _) (streamL_len _ _ _)]
theorem lk_mix (k M : K8) (hM : Hid (M = mix k)) (w : World) : Calls Try.prog 41 #[.agg #[.int .u32 (W k.k0), .int .u32 (W k.k1), .int .u32 (W k.k2), .int .u32 (W k.k3), .int .u32 (W k.k4), .int .u32 (W k.k5), .int .u32 (W k.k6), .int .u32 (W k.k7)]] w fun e w' => e = .returned (.agg #[.int .u32 (W M.k0), .int .u32 (W M.k1), .int .u32 (W M.k2), .int .u32 (W M.k3), .int .u32 (W M.k4), .int .u32 (W M.k5), .int .u32 (W M.k6), .int .u32 (W M.k7)]) ∧ Below w.heap.size w w' := by
  rw [hM.out]; exact mix_any k w
section
attribute [local go_sem ↓] eql_28 run_str'
set_option maxRecDepth 20000 in
set_option maxHeartbeats 16000000 in
theorem lk_same (k : K8) (p q : Int) (A : Option Addr) (l : List UInt8) (c : Nat) (w : World) (hB : Bts w A l) (h100 : ¬ 100 < l.length) :
    Calls Try.prog 19 #[.agg k.vals.toArray, .agg k.vals.toArray, .int .i64 p, .int .i64 q, .slice A l.length c] w fun e w' => e = .returned (.bool true) ∧ Below w.heap.size w w' := by
  obtain ⟨M, hM⟩ : ∃ M, Hid (M = mix k) := ⟨_, rfl⟩
  have HSa := Lib.hid (env16_start (w0 := w) (A := A) (l := l) (w1 := ((((w.alloc (.cells k.vals.toArray 23)).alloc (.cells k.vals.toArray 23)).alloc (.cells k.vals.toArray 28)).alloc (.cells k.vals.toArray 28)).drew.drew) (((Holds.newAt ((w.alloc (.cells k.vals.toArray 23)).alloc (.cells k.vals.toArray 23)) 28 k.vals (n := w.heap.size + 1 + 1) (by simp)).alloc (.cells k.vals.toArray 28)).drew.drew) ((Holds.newAt (((w.alloc (.cells k.vals.toArray 23)).alloc (.cells k.vals.toArray 23)).alloc (.cells k.vals.toArray 28)) 28 k.vals (n := w.heap.size + 1 + 1 + 1) (by simp)).drew.drew) ⟨(((((Below.refl _ _).alloc (Nat.le_refl _) (.cells k.vals.toArray 23)).alloc (by simp) (.cells k.vals.toArray 23)).alloc (by simp; omega) _).alloc (by simp; omega) _).drew.drew, by simp; omega, (((hB.alloc _).alloc _).alloc _).alloc _⟩)
  have HSb := Lib.hid (env16_start (w0 := w) (A := A) (l := l) (w1 := ((((w.alloc (.cells k.vals.toArray 23)).alloc (.cells k.vals.toArray 23)).alloc (.cells k.vals.toArray 28)).alloc (.cells k.vals.toArray 28)).drew.drew) ((Holds.newAt (((w.alloc (.cells k.vals.toArray 23)).alloc (.cells k.vals.toArray 23)).alloc (.cells k.vals.toArray 28)) 28 k.vals (n := w.heap.size + 1 + 1 + 1) (by simp)).drew.drew) (((Holds.newAt ((w.alloc (.cells k.vals.toArray 23)).alloc (.cells k.vals.toArray 23)) 28 k.vals (n := w.heap.size + 1 + 1) (by simp)).alloc (.cells k.vals.toArray 28)).drew.drew) ⟨(((((Below.refl _ _).alloc (Nat.le_refl _) (.cells k.vals.toArray 23)).alloc (by simp) (.cells k.vals.toArray 23)).alloc (by simp; omega) _).alloc (by simp; omega) _).drew.drew, by simp; omega, (((hB.alloc _).alloc _).alloc _).alloc _⟩)
  unfold K8.vals at *
  go_enter Try.func19, Try.ntmps19
  go_wp2_with fail
  clear hB
  go_region
  all_goals (go_wp2_with fail)
  · refine wp_region_till 8 (fun w' => w'.cell? ⟨w.heap.size + 1 + 1, 0, none⟩ = some (.int .u32 (W k.k0)) ∧ w'.cell? ⟨w.heap.size + 1 + 1, 1, none⟩ = some (.int .u32 (W k.k1)) ∧ w'.cell? ⟨w.heap.size + 1 + 1, 2, none⟩ = some (.int .u32 (W k.k2)) ∧ w'.cell? ⟨w.heap.size + 1 + 1, 3, none⟩ = some (.int .u32 (W k.k3)) ∧ w'.cell? ⟨w.heap.size + 1 + 1, 4, none⟩ = some (.int .u32 (W k.k4)) ∧ w'.cell? ⟨w.heap.size + 1 + 1, 5, none⟩ = some (.int .u32 (W k.k5)) ∧ w'.cell? ⟨w.heap.size + 1 + 1, 6, none⟩ = some (.int .u32 (W k.k6)) ∧ w'.cell? ⟨w.heap.size + 1 + 1, 7, none⟩ = some (.int .u32 (W k.k7)) ∧ w'.cell? ⟨w.heap.size + 1 + 1 + 1, 0, none⟩ = some (.int .u32 (W k.k0)) ∧ w'.cell? ⟨w.heap.size + 1 + 1 + 1, 1, none⟩ = some (.int .u32 (W k.k1)) ∧ w'.cell? ⟨w.heap.size + 1 + 1 + 1, 2, none⟩ = some (.int .u32 (W k.k2)) ∧ w'.cell? ⟨w.heap.size + 1 + 1 + 1, 3, none⟩ = some (.int .u32 (W k.k3)) ∧ w'.cell? ⟨w.heap.size + 1 + 1 + 1, 4, none⟩ = some (.int .u32 (W k.k4)) ∧ w'.cell? ⟨w.heap.size + 1 + 1 + 1, 5, none⟩ = some (.int .u32 (W k.k5)) ∧ w'.cell? ⟨w.heap.size + 1 + 1 + 1, 6, none⟩ = some (.int .u32 (W k.k6)) ∧ w'.cell? ⟨w.heap.size + 1 + 1 + 1, 7, none⟩ = some (.int .u32 (W k.k7)) ∧ Bts w' A l ∧ Bts w' none [] ∧ Bts w' none [] ∧ Kp w A l w') (fun _ => True) (by kernel_rfl) (HSa.out) trivial ?_
    show Go_ _ _ _ _ _ _ _ _ _ _ (World.drew _)
    refine Go_.take (i := 0) (oi := ⟨some 21, Op.load 28 (Operand.tmp 12), 28, _, _, none⟩) (v := ?_) rfl (by kernel_rfl) (by kernel_rfl) (by kernel_rfl) rfl (fun _ _ _ h => h) (Or.inl ⟨by rfl, ?_⟩) ?_
    rotate_left; · intro w0 hS; obtain ⟨c0, c1, c2, c3, c4, c5, c6, c7, c8, c9, c10, c11, c12, c13, c14, c15, cA, cB3, cB4, cK⟩ := hS; go_simp; try with_reducible rfl
    try simp only [Act.put, List.setIfInBounds_toArray, List.set_cons_zero, List.set_cons_succ]
    refine Go_.take (i := 1) (oi := ⟨some 22, Op.move (Operand.tmp 3), 3, _, _, none⟩) (v := ?_) rfl (by kernel_rfl) (by kernel_rfl) (by kernel_rfl) rfl (fun _ _ _ h => h) (Or.inl ⟨by rfl, ?_⟩) ?_
    rotate_left; · intro w0 _; go_simp; try with_reducible rfl
    try simp only [Act.put, List.setIfInBounds_toArray, List.set_cons_zero, List.set_cons_succ]
    refine Go_.take (i := 2) (oi := ⟨some 23, Op.load 28 (Operand.tmp 11), 28, _, _, none⟩) (v := ?_) rfl (by kernel_rfl) (by kernel_rfl) (by kernel_rfl) rfl (fun _ _ _ h => h) (Or.inl ⟨by rfl, ?_⟩) ?_
    rotate_left; · intro w0 hS; obtain ⟨c0, c1, c2, c3, c4, c5, c6, c7, c8, c9, c10, c11, c12, c13, c14, c15, cA, cB3, cB4, cK⟩ := hS; go_simp; try with_reducible rfl
    try simp only [Act.put, List.setIfInBounds_toArray, List.set_cons_zero, List.set_cons_succ]
    refine Go_.take (i := 3) (oi := ⟨some 24, Op.move (Operand.tmp 2), 3, _, _, none⟩) (v := ?_) rfl (by kernel_rfl) (by kernel_rfl) (by kernel_rfl) rfl (fun _ _ _ h => h) (Or.inl ⟨by rfl, ?_⟩) ?_
    rotate_left; · intro w0 _; go_simp; try with_reducible rfl
    try simp only [Act.put, List.setIfInBounds_toArray, List.set_cons_zero, List.set_cons_succ]
    refine Go_.take (i := 4) (oi := ⟨some 25, Op.move (Operand.tmp 4), 24, _, _, none⟩) (v := ?_) rfl (by kernel_rfl) (by kernel_rfl) (by kernel_rfl) rfl (fun _ _ _ h => h) (Or.inl ⟨by rfl, ?_⟩) ?_
    rotate_left; · intro w0 _; go_simp; try with_reducible rfl
    try simp only [Act.put, List.setIfInBounds_toArray, List.set_cons_zero, List.set_cons_succ]
    refine Go_.step (i := 5) (o := ⟨some 26, Op.call { callee := Callee.value (Operand.func 48), args := #[Operand.tmp 23, Operand.tmp 24, Operand.tmp 25], argTypes := #[28, 3, 24] }, 24, _, _, none⟩) (by kernel_rfl) rfl (fun K hT hK => ?_)
    replace hT := hT.1
    rw [if_pos (by rfl)]
    go_simp
    refine (lb_xor k _ p A l c (by omega) (env16_kp hT).1.2.2).mono ?_
    rintro e w' ⟨A5, c5, r5, rfl, hr5, hl5, hB5, hbx⟩
    refine hK.out _ _ (Till.of (env16_keep hT hbx)) ?_
    clear hT hK K
    refine Go_.step (i := 6) (o := ⟨some 27, Op.call { callee := Callee.value (Operand.func 48), args := #[Operand.tmp 21, Operand.tmp 22, Operand.tmp 26], argTypes := #[28, 3, 24] }, 24, _, _, none⟩) (by kernel_rfl) rfl (fun K hT hK => ?_)
    replace hT := hT.1
    rw [if_pos (by rfl)]
    go_simp
    refine (lb_xor k _ q A5 r5 c5 (by have := hl5.out; omega) hB5).mono ?_
    rintro e w' ⟨A13, c13, r13, rfl, hr13, hl13, hB13, hbx⟩
    have HS5 := Lib.hid (env16_with (A6 := none) (l6 := []) hT hbx hB13 (Bts.nil _ _))
    refine hK.out _ _ (Till.of (env16_keep hT hbx)) ?_
    clear hT hK K
    refine Go_.take (i := 7) (oi := ⟨some 13, Op.assign (Operand.tmp 27), 24, _, _, none⟩) (v := ?_) rfl (by kernel_rfl) (by kernel_rfl) (by kernel_rfl) rfl (fun _ _ _ h => h) (Or.inl ⟨by rfl, ?_⟩) ?_
    rotate_left; · intro w0 _; go_simp; try with_reducible rfl
    try simp only [Act.put, List.setIfInBounds_toArray, List.set_cons_zero, List.set_cons_succ]
    refine Go_.done (by kernel_rfl) ?_
    clear HSa
    go_wp2_with fail
    refine wp_region_till 8 (fun w' => w'.cell? ⟨w.heap.size + 1 + 1, 0, none⟩ = some (.int .u32 (W k.k0)) ∧ w'.cell? ⟨w.heap.size + 1 + 1, 1, none⟩ = some (.int .u32 (W k.k1)) ∧ w'.cell? ⟨w.heap.size + 1 + 1, 2, none⟩ = some (.int .u32 (W k.k2)) ∧ w'.cell? ⟨w.heap.size + 1 + 1, 3, none⟩ = some (.int .u32 (W k.k3)) ∧ w'.cell? ⟨w.heap.size + 1 + 1, 4, none⟩ = some (.int .u32 (W k.k4)) ∧ w'.cell? ⟨w.heap.size + 1 + 1, 5, none⟩ = some (.int .u32 (W k.k5)) ∧ w'.cell? ⟨w.heap.size + 1 + 1, 6, none⟩ = some (.int .u32 (W k.k6)) ∧ w'.cell? ⟨w.heap.size + 1 + 1, 7, none⟩ = some (.int .u32 (W k.k7)) ∧ w'.cell? ⟨w.heap.size + 1 + 1 + 1, 0, none⟩ = some (.int .u32 (W k.k0)) ∧ w'.cell? ⟨w.heap.size + 1 + 1 + 1, 1, none⟩ = some (.int .u32 (W k.k1)) ∧ w'.cell? ⟨w.heap.size + 1 + 1 + 1, 2, none⟩ = some (.int .u32 (W k.k2)) ∧ w'.cell? ⟨w.heap.size + 1 + 1 + 1, 3, none⟩ = some (.int .u32 (W k.k3)) ∧ w'.cell? ⟨w.heap.size + 1 + 1 + 1, 4, none⟩ = some (.int .u32 (W k.k4)) ∧ w'.cell? ⟨w.heap.size + 1 + 1 + 1, 5, none⟩ = some (.int .u32 (W k.k5)) ∧ w'.cell? ⟨w.heap.size + 1 + 1 + 1, 6, none⟩ = some (.int .u32 (W k.k6)) ∧ w'.cell? ⟨w.heap.size + 1 + 1 + 1, 7, none⟩ = some (.int .u32 (W k.k7)) ∧ Bts w' A l ∧ Bts w' A13 r13 ∧ Bts w' none [] ∧ Kp w A l w') (fun _ => True) (by kernel_rfl) (env16_keep HS5.out (Below.refl _ _).drew) trivial ?_
    show Go_ _ _ _ _ _ _ _ _ _ _ (World.drew _)
    refine Go_.take (i := 0) (oi := ⟨some 28, Op.load 28 (Operand.tmp 11), 28, _, _, none⟩) (v := ?_) rfl (by kernel_rfl) (by kernel_rfl) (by kernel_rfl) rfl (fun _ _ _ h => h) (Or.inl ⟨by rfl, ?_⟩) ?_
    rotate_left; · intro w0 hS; obtain ⟨c0, c1, c2, c3, c4, c5, c6, c7, c8, c9, c10, c11, c12, c13, c14, c15, cA, cB3, cB4, cK⟩ := hS; go_simp; try with_reducible rfl
    try simp only [Act.put, List.setIfInBounds_toArray, List.set_cons_zero, List.set_cons_succ]
    refine Go_.take (i := 1) (oi := ⟨some 29, Op.move (Operand.tmp 2), 3, _, _, none⟩) (v := ?_) rfl (by kernel_rfl) (by kernel_rfl) (by kernel_rfl) rfl (fun _ _ _ h => h) (Or.inl ⟨by rfl, ?_⟩) ?_
    rotate_left; · intro w0 _; go_simp; try with_reducible rfl
    try simp only [Act.put, List.setIfInBounds_toArray, List.set_cons_zero, List.set_cons_succ]
    refine Go_.take (i := 2) (oi := ⟨some 30, Op.load 28 (Operand.tmp 12), 28, _, _, none⟩) (v := ?_) rfl (by kernel_rfl) (by kernel_rfl) (by kernel_rfl) rfl (fun _ _ _ h => h) (Or.inl ⟨by rfl, ?_⟩) ?_
    rotate_left; · intro w0 hS; obtain ⟨c0, c1, c2, c3, c4, c5, c6, c7, c8, c9, c10, c11, c12, c13, c14, c15, cA, cB3, cB4, cK⟩ := hS; go_simp; try with_reducible rfl
    try simp only [Act.put, List.setIfInBounds_toArray, List.set_cons_zero, List.set_cons_succ]
    refine Go_.take (i := 3) (oi := ⟨some 31, Op.move (Operand.tmp 3), 3, _, _, none⟩) (v := ?_) rfl (by kernel_rfl) (by kernel_rfl) (by kernel_rfl) rfl (fun _ _ _ h => h) (Or.inl ⟨by rfl, ?_⟩) ?_
    rotate_left; · intro w0 _; go_simp; try with_reducible rfl
    try simp only [Act.put, List.setIfInBounds_toArray, List.set_cons_zero, List.set_cons_succ]
    refine Go_.take (i := 4) (oi := ⟨some 32, Op.move (Operand.tmp 4), 24, _, _, none⟩) (v := ?_) rfl (by kernel_rfl) (by kernel_rfl) (by kernel_rfl) rfl (fun _ _ _ h => h) (Or.inl ⟨by rfl, ?_⟩) ?_
    rotate_left; · intro w0 _; go_simp; try with_reducible rfl
    try simp only [Act.put, List.setIfInBounds_toArray, List.set_cons_zero, List.set_cons_succ]
    refine Go_.step (i := 5) (o := ⟨some 33, Op.call { callee := Callee.value (Operand.func 48), args := #[Operand.tmp 30, Operand.tmp 31, Operand.tmp 32], argTypes := #[28, 3, 24] }, 24, _, _, none⟩) (by kernel_rfl) rfl (fun K hT hK => ?_)
    replace hT := hT.1
    rw [if_pos (by rfl)]
    go_simp
    refine (lb_xor k _ q A l c (by omega) (env16_kp hT).1.2.2).mono ?_
    rintro e w' ⟨A6, c6, r6, rfl, hr6, hl6, hB6, hbx⟩
    refine hK.out _ _ (Till.of (env16_keep hT hbx)) ?_
    clear hT hK K
    refine Go_.step (i := 6) (o := ⟨some 34, Op.call { callee := Callee.value (Operand.func 48), args := #[Operand.tmp 28, Operand.tmp 29, Operand.tmp 33], argTypes := #[28, 3, 24] }, 24, _, _, none⟩) (by kernel_rfl) rfl (fun K hT hK => ?_)
    replace hT := hT.1
    rw [if_pos (by rfl)]
    go_simp
    refine (lb_xor k _ p A6 r6 c6 (by have := hl6.out; omega) hB6).mono ?_
    rintro e w' ⟨A14, c14, r14, rfl, hr14, hl14, hB14, hbx⟩
    obtain rfl : r14 = r13 := lk_comm hr5.out hr13.out hr6.out hr14.out
    have HS6 := Lib.hid (env16_with hT hbx ((env16_kp hT).2.1.below hbx) hB14)
    refine hK.out _ _ (Till.of (env16_keep hT hbx)) ?_
    clear hT hK K
    refine Go_.take (i := 7) (oi := ⟨some 14, Op.assign (Operand.tmp 34), 24, _, _, none⟩) (v := ?_) rfl (by kernel_rfl) (by kernel_rfl) (by kernel_rfl) rfl (fun _ _ _ h => h) (Or.inl ⟨by rfl, ?_⟩) ?_
    rotate_left; · intro w0 _; go_simp; try with_reducible rfl
    try simp only [Act.put, List.setIfInBounds_toArray, List.set_cons_zero, List.set_cons_succ]
    refine Go_.done (by kernel_rfl) ?_
    clear HS5
    go_wp2_with fail
    refine wp_region_till 33 (fun w' => w'.cell? ⟨w.heap.size + 1 + 1, 0, none⟩ = some (.int .u32 (W k.k0)) ∧ w'.cell? ⟨w.heap.size + 1 + 1, 1, none⟩ = some (.int .u32 (W k.k1)) ∧ w'.cell? ⟨w.heap.size + 1 + 1, 2, none⟩ = some (.int .u32 (W k.k2)) ∧ w'.cell? ⟨w.heap.size + 1 + 1, 3, none⟩ = some (.int .u32 (W k.k3)) ∧ w'.cell? ⟨w.heap.size + 1 + 1, 4, none⟩ = some (.int .u32 (W k.k4)) ∧ w'.cell? ⟨w.heap.size + 1 + 1, 5, none⟩ = some (.int .u32 (W k.k5)) ∧ w'.cell? ⟨w.heap.size + 1 + 1, 6, none⟩ = some (.int .u32 (W k.k6)) ∧ w'.cell? ⟨w.heap.size + 1 + 1, 7, none⟩ = some (.int .u32 (W k.k7)) ∧ w'.cell? ⟨w.heap.size + 1 + 1 + 1, 0, none⟩ = some (.int .u32 (W k.k0)) ∧ w'.cell? ⟨w.heap.size + 1 + 1 + 1, 1, none⟩ = some (.int .u32 (W k.k1)) ∧ w'.cell? ⟨w.heap.size + 1 + 1 + 1, 2, none⟩ = some (.int .u32 (W k.k2)) ∧ w'.cell? ⟨w.heap.size + 1 + 1 + 1, 3, none⟩ = some (.int .u32 (W k.k3)) ∧ w'.cell? ⟨w.heap.size + 1 + 1 + 1, 4, none⟩ = some (.int .u32 (W k.k4)) ∧ w'.cell? ⟨w.heap.size + 1 + 1 + 1, 5, none⟩ = some (.int .u32 (W k.k5)) ∧ w'.cell? ⟨w.heap.size + 1 + 1 + 1, 6, none⟩ = some (.int .u32 (W k.k6)) ∧ w'.cell? ⟨w.heap.size + 1 + 1 + 1, 7, none⟩ = some (.int .u32 (W k.k7)) ∧ Bts w' A l ∧ Bts w' A13 r14 ∧ Bts w' A14 r14 ∧ Kp w A l w') (fun _ => True) (by kernel_rfl) (env16_keep HS6.out (Below.refl _ _).drew) trivial ?_
    show Go_ _ _ _ _ _ _ _ _ _ _ (World.drew _)
    refine Go_.step (i := 0) (o := ⟨some 35, Op.call { callee := Callee.value (Operand.func 43), args := #[], argTypes := #[] }, 4, _, _, none⟩) (by kernel_rfl) rfl (fun K hT hK => ?_)
    replace hT := hT.1
    rw [if_pos (by rfl)]
    go_simp
    refine (told14 _).mono ?_
    rintro e w' ⟨rfl, hbx⟩
    refine hK.out _ _ (Till.of (env16_keep hT hbx)) ?_
    clear hT hK K
    refine Go_.take (i := 1) (oi := ⟨some 36, Op.move (Operand.tmp 35), 4, _, _, none⟩) (v := ?_) rfl (by kernel_rfl) (by kernel_rfl) (by kernel_rfl) rfl (fun _ _ _ h => h) (Or.inl ⟨by rfl, ?_⟩) ?_
    rotate_left; · intro w0 _; go_simp; try with_reducible rfl
    try simp only [Act.put, List.setIfInBounds_toArray, List.set_cons_zero, List.set_cons_succ]
    refine Go_.take (i := 2) (oi := ⟨some 37, Op.load 28 (Operand.tmp 11), 28, _, _, some (1, true)⟩) (v := ?_) rfl (by kernel_rfl) (by kernel_rfl) (by kernel_rfl) rfl (fun _ _ _ h => h) (Or.inl ⟨by rfl, ?_⟩) ?_
    rotate_left; · intro w0 hS; obtain ⟨c0, c1, c2, c3, c4, c5, c6, c7, c8, c9, c10, c11, c12, c13, c14, c15, cA, cB3, cB4, cK⟩ := hS; go_simp; try with_reducible rfl
    try simp only [Act.put, List.setIfInBounds_toArray, List.set_cons_zero, List.set_cons_succ]
    refine Go_.take (i := 4) (oi := ⟨some 39, Op.load 28 (Operand.tmp 12), 28, _, _, some (1, true)⟩) (v := ?_) rfl (by kernel_rfl) (by kernel_rfl) (by kernel_rfl) rfl (fun _ _ _ h => h) (Or.inl ⟨by rfl, ?_⟩) ?_
    rotate_left; · intro w0 hS; obtain ⟨c0, c1, c2, c3, c4, c5, c6, c7, c8, c9, c10, c11, c12, c13, c14, c15, cA, cB3, cB4, cK⟩ := hS; go_simp; try with_reducible rfl
    try simp only [Act.put, List.setIfInBounds_toArray, List.set_cons_zero, List.set_cons_succ]
    refine Go_.take (i := 7) (oi := ⟨some 42, Op.load 28 (Operand.tmp 11), 28, _, _, some (1, true)⟩) (v := ?_) rfl (by kernel_rfl) (by kernel_rfl) (by kernel_rfl) rfl (fun _ _ _ h => h) (Or.inl ⟨by rfl, ?_⟩) ?_
    rotate_left; · intro w0 hS; obtain ⟨c0, c1, c2, c3, c4, c5, c6, c7, c8, c9, c10, c11, c12, c13, c14, c15, cA, cB3, cB4, cK⟩ := hS; go_simp; try with_reducible rfl
    try simp only [Act.put, List.setIfInBounds_toArray, List.set_cons_zero, List.set_cons_succ]
    refine Go_.take (i := 8) (oi := ⟨some 43, Op.load 28 (Operand.tmp 12), 28, _, _, some (1, true)⟩) (v := ?_) rfl (by kernel_rfl) (by kernel_rfl) (by kernel_rfl) rfl (fun _ _ _ h => h) (Or.inl ⟨by rfl, ?_⟩) ?_
    rotate_left; · intro w0 hS; obtain ⟨c0, c1, c2, c3, c4, c5, c6, c7, c8, c9, c10, c11, c12, c13, c14, c15, cA, cB3, cB4, cK⟩ := hS; go_simp; try with_reducible rfl
    try simp only [Act.put, List.setIfInBounds_toArray, List.set_cons_zero, List.set_cons_succ]
    refine Go_.take (i := 9) (oi := ⟨some 44, Op.binOp BinOp.eql 28 (Operand.tmp 42) (Operand.tmp 43) 28, 4, _, _, some (1, true)⟩) (v := ?_) rfl (by kernel_rfl) (by kernel_rfl) (by kernel_rfl) rfl (fun _ _ _ h => h) (Or.inl ⟨by rfl, ?_⟩) ?_
    rotate_left; · intro w0 _; go_simp; try with_reducible rfl
    try simp only [Act.put, List.setIfInBounds_toArray, List.set_cons_zero, List.set_cons_succ]
    refine Go_.step (i := 3) (o := ⟨some 38, Op.call { callee := Callee.value (Operand.func 41), args := #[Operand.tmp 37], argTypes := #[28] }, 28, _, _, some (1, true)⟩) (by kernel_rfl) rfl (fun K hT hK => ?_)
    replace hT := hT.1
    rw [if_pos (by rfl)]
    go_simp
    refine (lk_mix k M hM _).mono ?_
    rintro e w' ⟨rfl, hbx⟩
    refine hK.out _ _ (Till.of (env16_keep hT hbx)) ?_
    clear hT hK K
    refine Go_.step (i := 5) (o := ⟨some 40, Op.call { callee := Callee.value (Operand.func 41), args := #[Operand.tmp 39], argTypes := #[28] }, 28, _, _, some (1, true)⟩) (by kernel_rfl) rfl (fun K hT hK => ?_)
    replace hT := hT.1
    rw [if_pos (by rfl)]
    go_simp
    refine (lk_mix k M hM _).mono ?_
    rintro e w' ⟨rfl, hbx⟩
    refine hK.out _ _ (Till.of (env16_keep hT hbx)) ?_
    clear hT hK K
    refine Go_.take (i := 6) (oi := ⟨some 41, Op.binOp BinOp.eql 28 (Operand.tmp 38) (Operand.tmp 40) 28, 4, _, _, some (1, true)⟩) (v := ?_) rfl (by kernel_rfl) (by kernel_rfl) (by kernel_rfl) rfl (fun _ _ _ h => h) (Or.inl ⟨by rfl, ?_⟩) ?_
    rotate_left; · intro w0 _; go_simp; try with_reducible rfl
    try simp only [Act.put, List.setIfInBounds_toArray, List.set_cons_zero, List.set_cons_succ]
    refine Go_.take (i := 10) (oi := ⟨some 45, Op.binOp BinOp.eql 4 (Operand.tmp 41) (Operand.tmp 44) 4, 4, _, _, some (1, true)⟩) (v := ?_) rfl (by kernel_rfl) (by kernel_rfl) (by kernel_rfl) rfl (fun _ _ _ h => h) (Or.inl ⟨by rfl, ?_⟩) ?_
    rotate_left; · intro w0 _; go_simp; try with_reducible rfl
    try simp only [Act.put, List.setIfInBounds_toArray, List.set_cons_zero, List.set_cons_succ]
    refine Go_.take (i := 11) (oi := ⟨some 46, Op.pick (Operand.tmp 36) (Operand.tmp 45) (Operand.const (Value.bool false)), 4, _, _, none⟩) (v := ?_) rfl (by kernel_rfl) (by kernel_rfl) (by kernel_rfl) rfl (fun _ _ _ h => h) (Or.inl ⟨by rfl, ?_⟩) ?_
    rotate_left; · intro w0 _; go_simp; try with_reducible rfl
    try simp only [Act.put, List.setIfInBounds_toArray, List.set_cons_zero, List.set_cons_succ]
    refine Go_.take (i := 12) (oi := ⟨some 47, Op.move (Operand.tmp 46), 4, _, _, none⟩) (v := ?_) rfl (by kernel_rfl) (by kernel_rfl) (by kernel_rfl) rfl (fun _ _ _ h => h) (Or.inl ⟨by rfl, ?_⟩) ?_
    rotate_left; · intro w0 _; go_simp; try with_reducible rfl
    try simp only [Act.put, List.setIfInBounds_toArray, List.set_cons_zero, List.set_cons_succ]
    refine Go_.take (i := 13) (oi := ⟨some 48, Op.move (Operand.tmp 13), 24, _, _, some (12, true)⟩) (v := ?_) rfl (by kernel_rfl) (by kernel_rfl) (by kernel_rfl) rfl (fun _ _ _ h => h) (Or.inl ⟨by rfl, ?_⟩) ?_
    rotate_left; · intro w0 _; go_simp; try with_reducible rfl
    try simp only [Act.put, List.setIfInBounds_toArray, List.set_cons_zero, List.set_cons_succ]
    refine Go_.take (i := 14) (oi := ⟨some 49, Op.convert 24 9 (Operand.tmp 48), 9, _, _, some (12, true)⟩) (v := ?_) rfl (by kernel_rfl) (by kernel_rfl) (by kernel_rfl) rfl (fun _ _ _ h => h) (Or.inl ⟨by rfl, ?_⟩) ?_
    rotate_left; · intro w0 hS; obtain ⟨c0, c1, c2, c3, c4, c5, c6, c7, c8, c9, c10, c11, c12, c13, c14, c15, cA, cB3, cB4, cK⟩ := hS; go_simp; try with_reducible rfl
    try simp only [Act.put, List.setIfInBounds_toArray, List.set_cons_zero, List.set_cons_succ]
    refine Go_.take (i := 15) (oi := ⟨some 50, Op.move (Operand.tmp 14), 24, _, _, some (12, true)⟩) (v := ?_) rfl (by kernel_rfl) (by kernel_rfl) (by kernel_rfl) rfl (fun _ _ _ h => h) (Or.inl ⟨by rfl, ?_⟩) ?_
    rotate_left; · intro w0 _; go_simp; try with_reducible rfl
    try simp only [Act.put, List.setIfInBounds_toArray, List.set_cons_zero, List.set_cons_succ]
    refine Go_.take (i := 16) (oi := ⟨some 51, Op.convert 24 9 (Operand.tmp 50), 9, _, _, some (12, true)⟩) (v := ?_) rfl (by kernel_rfl) (by kernel_rfl) (by kernel_rfl) rfl (fun _ _ _ h => h) (Or.inl ⟨by rfl, ?_⟩) ?_
    rotate_left; · intro w0 hS; obtain ⟨c0, c1, c2, c3, c4, c5, c6, c7, c8, c9, c10, c11, c12, c13, c14, c15, cA, cB3, cB4, cK⟩ := hS; go_simp; try with_reducible rfl
    try simp only [Act.put, List.setIfInBounds_toArray, List.set_cons_zero, List.set_cons_succ]
    refine Go_.take (i := 17) (oi := ⟨some 52, Op.binOp BinOp.eql 9 (Operand.tmp 49) (Operand.tmp 51) 9, 4, _, _, some (12, true)⟩) (v := ?_) rfl (by kernel_rfl) (by kernel_rfl) (by kernel_rfl) rfl (fun _ _ _ h => h) (Or.inl ⟨by rfl, ?_⟩) ?_
    rotate_left; · intro w0 _; go_simp; try with_reducible rfl
    try simp only [Act.put, List.setIfInBounds_toArray, List.set_cons_zero, List.set_cons_succ]
    refine Go_.take (i := 18) (oi := ⟨some 53, Op.pick (Operand.tmp 47) (Operand.tmp 52) (Operand.const (Value.bool false)), 4, _, _, none⟩) (v := ?_) rfl (by kernel_rfl) (by kernel_rfl) (by kernel_rfl) rfl (fun _ _ _ h => h) (Or.inl ⟨by rfl, ?_⟩) ?_
    rotate_left; · intro w0 _; go_simp; try with_reducible rfl
    try simp only [Act.put, List.setIfInBounds_toArray, List.set_cons_zero, List.set_cons_succ]
    refine Go_.take (i := 19) (oi := ⟨some 54, Op.move (Operand.tmp 53), 4, _, _, none⟩) (v := ?_) rfl (by kernel_rfl) (by kernel_rfl) (by kernel_rfl) rfl (fun _ _ _ h => h) (Or.inl ⟨by rfl, ?_⟩) ?_
    rotate_left; · intro w0 _; go_simp; try with_reducible rfl
    try simp only [Act.put, List.setIfInBounds_toArray, List.set_cons_zero, List.set_cons_succ]
    refine Go_.take (i := 20) (oi := ⟨some 55, Op.load 28 (Operand.tmp 11), 28, _, _, some (19, true)⟩) (v := ?_) rfl (by kernel_rfl) (by kernel_rfl) (by kernel_rfl) rfl (fun _ _ _ h => h) (Or.inl ⟨by rfl, ?_⟩) ?_
    rotate_left; · intro w0 hS; obtain ⟨c0, c1, c2, c3, c4, c5, c6, c7, c8, c9, c10, c11, c12, c13, c14, c15, cA, cB3, cB4, cK⟩ := hS; go_simp; try with_reducible rfl
    try simp only [Act.put, List.setIfInBounds_toArray, List.set_cons_zero, List.set_cons_succ]
    refine Go_.take (i := 21) (oi := ⟨some 56, Op.move (Operand.tmp 2), 3, _, _, some (19, true)⟩) (v := ?_) rfl (by kernel_rfl) (by kernel_rfl) (by kernel_rfl) rfl (fun _ _ _ h => h) (Or.inl ⟨by rfl, ?_⟩) ?_
    rotate_left; · intro w0 _; go_simp; try with_reducible rfl
    try simp only [Act.put, List.setIfInBounds_toArray, List.set_cons_zero, List.set_cons_succ]
    refine Go_.take (i := 22) (oi := ⟨some 57, Op.load 28 (Operand.tmp 12), 28, _, _, some (19, true)⟩) (v := ?_) rfl (by kernel_rfl) (by kernel_rfl) (by kernel_rfl) rfl (fun _ _ _ h => h) (Or.inl ⟨by rfl, ?_⟩) ?_
    rotate_left; · intro w0 hS; obtain ⟨c0, c1, c2, c3, c4, c5, c6, c7, c8, c9, c10, c11, c12, c13, c14, c15, cA, cB3, cB4, cK⟩ := hS; go_simp; try with_reducible rfl
    try simp only [Act.put, List.setIfInBounds_toArray, List.set_cons_zero, List.set_cons_succ]
    refine Go_.take (i := 23) (oi := ⟨some 58, Op.move (Operand.tmp 3), 3, _, _, some (19, true)⟩) (v := ?_) rfl (by kernel_rfl) (by kernel_rfl) (by kernel_rfl) rfl (fun _ _ _ h => h) (Or.inl ⟨by rfl, ?_⟩) ?_
    rotate_left; · intro w0 _; go_simp; try with_reducible rfl
    try simp only [Act.put, List.setIfInBounds_toArray, List.set_cons_zero, List.set_cons_succ]
    refine Go_.take (i := 24) (oi := ⟨some 59, Op.move (Operand.tmp 13), 24, _, _, some (19, true)⟩) (v := ?_) rfl (by kernel_rfl) (by kernel_rfl) (by kernel_rfl) rfl (fun _ _ _ h => h) (Or.inl ⟨by rfl, ?_⟩) ?_
    rotate_left; · intro w0 _; go_simp; try with_reducible rfl
    try simp only [Act.put, List.setIfInBounds_toArray, List.set_cons_zero, List.set_cons_succ]
    refine Go_.take (i := 28) (oi := ⟨some 63, Op.move (Operand.tmp 4), 24, _, _, some (19, true)⟩) (v := ?_) rfl (by kernel_rfl) (by kernel_rfl) (by kernel_rfl) rfl (fun _ _ _ h => h) (Or.inl ⟨by rfl, ?_⟩) ?_
    rotate_left; · intro w0 _; go_simp; try with_reducible rfl
    try simp only [Act.put, List.setIfInBounds_toArray, List.set_cons_zero, List.set_cons_succ]
    refine Go_.take (i := 29) (oi := ⟨some 64, Op.convert 24 9 (Operand.tmp 63), 9, _, _, some (19, true)⟩) (v := ?_) rfl (by kernel_rfl) (by kernel_rfl) (by kernel_rfl) rfl (fun _ _ _ h => h) (Or.inl ⟨by rfl, ?_⟩) ?_
    rotate_left; · intro w0 hS; obtain ⟨c0, c1, c2, c3, c4, c5, c6, c7, c8, c9, c10, c11, c12, c13, c14, c15, cA, cB3, cB4, cK⟩ := hS; go_simp; try with_reducible rfl
    try simp only [Act.put, List.setIfInBounds_toArray, List.set_cons_zero, List.set_cons_succ]
    refine Go_.step (i := 25) (o := ⟨some 60, Op.call { callee := Callee.value (Operand.func 48), args := #[Operand.tmp 57, Operand.tmp 58, Operand.tmp 59], argTypes := #[28, 3, 24] }, 24, _, _, some (19, true)⟩) (by kernel_rfl) rfl (fun K hT hK => ?_)
    replace hT := hT.1
    rw [if_pos (by rfl)]
    go_simp
    refine (lb_xor k _ q A13 r14 c13 (by have h5 := hl5.out; have h13 := hl13.out; omega) (env16_kp hT).2.1).mono ?_
    rintro e w' ⟨A25, c25, r25, rfl, hr25, hl25, hB25, hbx⟩
    refine hK.out _ _ (Till.of (env16_keep hT hbx)) ?_
    clear hT hK K
    refine Go_.step (i := 26) (o := ⟨some 61, Op.call { callee := Callee.value (Operand.func 48), args := #[Operand.tmp 55, Operand.tmp 56, Operand.tmp 60], argTypes := #[28, 3, 24] }, 24, _, _, some (19, true)⟩) (by kernel_rfl) rfl (fun K hT hK => ?_)
    replace hT := hT.1
    rw [if_pos (by rfl)]
    go_simp
    refine (lb_xor k _ p A25 r25 c25 (by have h5 := hl5.out; have h13 := hl13.out; have h25 := hl25.out; omega) hB25).mono ?_
    rintro e w' ⟨A26, c26, r26, rfl, hr26, hl26, hB26, hbx⟩
    have hfin := (env16_kp (env16_keep hT hbx)).1.below
    refine hK.out _ _ (Till.of (env16_keep hT hbx)) ?_
    clear hT hK K
    refine Go_.raise (C := fun w0 => Bts w0 A26 r26) hB26 ?_
    refine Go_.take (i := 27) (oi := ⟨some 62, Op.convert 24 9 (Operand.tmp 61), 9, _, _, some (19, true)⟩) (v := ?_) rfl (by kernel_rfl) (by kernel_rfl) (by kernel_rfl) rfl (fun _ _ _ h => h) (Or.inl ⟨by rfl, ?_⟩) ?_
    rotate_left; · intro w0 hS; obtain ⟨⟨c0, c1, c2, c3, c4, c5, c6, c7, c8, c9, c10, c11, c12, c13, c14, c15, cA, cB3, cB4, cK⟩, cB26⟩ := hS; go_simp; try with_reducible rfl
    try simp only [Act.put, List.setIfInBounds_toArray, List.set_cons_zero, List.set_cons_succ]
    refine Go_.take (i := 30) (oi := ⟨some 65, Op.binOp BinOp.eql 9 (Operand.tmp 62) (Operand.tmp 64) 9, 4, _, _, some (19, true)⟩) (v := ?_) rfl (by kernel_rfl) (by kernel_rfl) (by kernel_rfl) rfl (fun _ _ _ h => h) (Or.inl ⟨by rfl, ?_⟩) ?_
    rotate_left; · intro w0 _; go_simp; try with_reducible rfl
    try simp only [Act.put, List.setIfInBounds_toArray, List.set_cons_zero, List.set_cons_succ]
    refine Go_.take (i := 31) (oi := ⟨some 66, Op.pick (Operand.tmp 54) (Operand.tmp 65) (Operand.const (Value.bool false)), 4, _, _, none⟩) (v := ?_) rfl (by kernel_rfl) (by kernel_rfl) (by kernel_rfl) rfl (fun _ _ _ h => h) (Or.inl ⟨by rfl, ?_⟩) ?_
    rotate_left; · intro w0 _; go_simp; try with_reducible rfl
    try simp only [Act.put, List.setIfInBounds_toArray, List.set_cons_zero, List.set_cons_succ]
    refine Go_.take (i := 32) (oi := ⟨some 10, Op.assign (Operand.tmp 66), 4, _, _, none⟩) (v := ?_) rfl (by kernel_rfl) (by kernel_rfl) (by kernel_rfl) rfl (fun _ _ _ h => h) (Or.inl ⟨by rfl, ?_⟩) ?_
    rotate_left; · intro w0 _; go_simp; try with_reducible rfl
    try simp only [Act.put, List.setIfInBounds_toArray, List.set_cons_zero, List.set_cons_succ]
    refine Go_.done (by kernel_rfl) ?_
    go_wp2
    go_ret
    refine ⟨ret_bool3 ?_, hfin⟩
    rw [lk_fin hr5.out hr13.out hr25.out hr26.out]
    simp
  · refine wp_region_till 8 (fun w' => w'.cell? ⟨w.heap.size + 1 + 1 + 1, 0, none⟩ = some (.int .u32 (W k.k0)) ∧ w'.cell? ⟨w.heap.size + 1 + 1 + 1, 1, none⟩ = some (.int .u32 (W k.k1)) ∧ w'.cell? ⟨w.heap.size + 1 + 1 + 1, 2, none⟩ = some (.int .u32 (W k.k2)) ∧ w'.cell? ⟨w.heap.size + 1 + 1 + 1, 3, none⟩ = some (.int .u32 (W k.k3)) ∧ w'.cell? ⟨w.heap.size + 1 + 1 + 1, 4, none⟩ = some (.int .u32 (W k.k4)) ∧ w'.cell? ⟨w.heap.size + 1 + 1 + 1, 5, none⟩ = some (.int .u32 (W k.k5)) ∧ w'.cell? ⟨w.heap.size + 1 + 1 + 1, 6, none⟩ = some (.int .u32 (W k.k6)) ∧ w'.cell? ⟨w.heap.size + 1 + 1 + 1, 7, none⟩ = some (.int .u32 (W k.k7)) ∧ w'.cell? ⟨w.heap.size + 1 + 1, 0, none⟩ = some (.int .u32 (W k.k0)) ∧ w'.cell? ⟨w.heap.size + 1 + 1, 1, none⟩ = some (.int .u32 (W k.k1)) ∧ w'.cell? ⟨w.heap.size + 1 + 1, 2, none⟩ = some (.int .u32 (W k.k2)) ∧ w'.cell? ⟨w.heap.size + 1 + 1, 3, none⟩ = some (.int .u32 (W k.k3)) ∧ w'.cell? ⟨w.heap.size + 1 + 1, 4, none⟩ = some (.int .u32 (W k.k4)) ∧ w'.cell? ⟨w.heap.size + 1 + 1, 5, none⟩ = some (.int .u32 (W k.k5)) ∧ w'.cell? ⟨w.heap.size + 1 + 1, 6, none⟩ = some (.int .u32 (W k.k6)) ∧ w'.cell? ⟨w.heap.size + 1 + 1, 7, none⟩ = some (.int .u32 (W k.k7)) ∧ Bts w' A l ∧ Bts w' none [] ∧ Bts w' none [] ∧ Kp w A l w') (fun _ => True) (by kernel_rfl) (HSb.out) trivial ?_
    show Go_ _ _ _ _ _ _ _ _ _ _ (World.drew _)
    refine Go_.take (i := 0) (oi := ⟨some 21, Op.load 28 (Operand.tmp 12), 28, _, _, none⟩) (v := ?_) rfl (by kernel_rfl) (by kernel_rfl) (by kernel_rfl) rfl (fun _ _ _ h => h) (Or.inl ⟨by rfl, ?_⟩) ?_
    rotate_left; · intro w0 hS; obtain ⟨c0, c1, c2, c3, c4, c5, c6, c7, c8, c9, c10, c11, c12, c13, c14, c15, cA, cB3, cB4, cK⟩ := hS; go_simp; try with_reducible rfl
    try simp only [Act.put, List.setIfInBounds_toArray, List.set_cons_zero, List.set_cons_succ]
    refine Go_.take (i := 1) (oi := ⟨some 22, Op.move (Operand.tmp 3), 3, _, _, none⟩) (v := ?_) rfl (by kernel_rfl) (by kernel_rfl) (by kernel_rfl) rfl (fun _ _ _ h => h) (Or.inl ⟨by rfl, ?_⟩) ?_
    rotate_left; · intro w0 _; go_simp; try with_reducible rfl
    try simp only [Act.put, List.setIfInBounds_toArray, List.set_cons_zero, List.set_cons_succ]
    refine Go_.take (i := 2) (oi := ⟨some 23, Op.load 28 (Operand.tmp 11), 28, _, _, none⟩) (v := ?_) rfl (by kernel_rfl) (by kernel_rfl) (by kernel_rfl) rfl (fun _ _ _ h => h) (Or.inl ⟨by rfl, ?_⟩) ?_
    rotate_left; · intro w0 hS; obtain ⟨c0, c1, c2, c3, c4, c5, c6, c7, c8, c9, c10, c11, c12, c13, c14, c15, cA, cB3, cB4, cK⟩ := hS; go_simp; try with_reducible rfl
    try simp only [Act.put, List.setIfInBounds_toArray, List.set_cons_zero, List.set_cons_succ]
    refine Go_.take (i := 3) (oi := ⟨some 24, Op.move (Operand.tmp 2), 3, _, _, none⟩) (v := ?_) rfl (by kernel_rfl) (by kernel_rfl) (by kernel_rfl) rfl (fun _ _ _ h => h) (Or.inl ⟨by rfl, ?_⟩) ?_
    rotate_left; · intro w0 _; go_simp; try with_reducible rfl
    try simp only [Act.put, List.setIfInBounds_toArray, List.set_cons_zero, List.set_cons_succ]
    refine Go_.take (i := 4) (oi := ⟨some 25, Op.move (Operand.tmp 4), 24, _, _, none⟩) (v := ?_) rfl (by kernel_rfl) (by kernel_rfl) (by kernel_rfl) rfl (fun _ _ _ h => h) (Or.inl ⟨by rfl, ?_⟩) ?_
    rotate_left; · intro w0 _; go_simp; try with_reducible rfl
    try simp only [Act.put, List.setIfInBounds_toArray, List.set_cons_zero, List.set_cons_succ]
    refine Go_.step (i := 5) (o := ⟨some 26, Op.call { callee := Callee.value (Operand.func 48), args := #[Operand.tmp 23, Operand.tmp 24, Operand.tmp 25], argTypes := #[28, 3, 24] }, 24, _, _, none⟩) (by kernel_rfl) rfl (fun K hT hK => ?_)
    replace hT := hT.1
    rw [if_pos (by rfl)]
    go_simp
    refine (lb_xor k _ p A l c (by omega) (env16_kp hT).1.2.2).mono ?_
    rintro e w' ⟨A5, c5, r5, rfl, hr5, hl5, hB5, hbx⟩
    refine hK.out _ _ (Till.of (env16_keep hT hbx)) ?_
    clear hT hK K
    refine Go_.step (i := 6) (o := ⟨some 27, Op.call { callee := Callee.value (Operand.func 48), args := #[Operand.tmp 21, Operand.tmp 22, Operand.tmp 26], argTypes := #[28, 3, 24] }, 24, _, _, none⟩) (by kernel_rfl) rfl (fun K hT hK => ?_)
    replace hT := hT.1
    rw [if_pos (by rfl)]
    go_simp
    refine (lb_xor k _ q A5 r5 c5 (by have := hl5.out; omega) hB5).mono ?_
    rintro e w' ⟨A13, c13, r13, rfl, hr13, hl13, hB13, hbx⟩
    have HS5 := Lib.hid (env16_with (A6 := none) (l6 := []) hT hbx hB13 (Bts.nil _ _))
    refine hK.out _ _ (Till.of (env16_keep hT hbx)) ?_
    clear hT hK K
    refine Go_.take (i := 7) (oi := ⟨some 13, Op.assign (Operand.tmp 27), 24, _, _, none⟩) (v := ?_) rfl (by kernel_rfl) (by kernel_rfl) (by kernel_rfl) rfl (fun _ _ _ h => h) (Or.inl ⟨by rfl, ?_⟩) ?_
    rotate_left; · intro w0 _; go_simp; try with_reducible rfl
    try simp only [Act.put, List.setIfInBounds_toArray, List.set_cons_zero, List.set_cons_succ]
    refine Go_.done (by kernel_rfl) ?_
    clear HSb
    go_wp2_with fail
    refine wp_region_till 8 (fun w' => w'.cell? ⟨w.heap.size + 1 + 1 + 1, 0, none⟩ = some (.int .u32 (W k.k0)) ∧ w'.cell? ⟨w.heap.size + 1 + 1 + 1, 1, none⟩ = some (.int .u32 (W k.k1)) ∧ w'.cell? ⟨w.heap.size + 1 + 1 + 1, 2, none⟩ = some (.int .u32 (W k.k2)) ∧ w'.cell? ⟨w.heap.size + 1 + 1 + 1, 3, none⟩ = some (.int .u32 (W k.k3)) ∧ w'.cell? ⟨w.heap.size + 1 + 1 + 1, 4, none⟩ = some (.int .u32 (W k.k4)) ∧ w'.cell? ⟨w.heap.size + 1 + 1 + 1, 5, none⟩ = some (.int .u32 (W k.k5)) ∧ w'.cell? ⟨w.heap.size + 1 + 1 + 1, 6, none⟩ = some (.int .u32 (W k.k6)) ∧ w'.cell? ⟨w.heap.size + 1 + 1 + 1, 7, none⟩ = some (.int .u32 (W k.k7)) ∧ w'.cell? ⟨w.heap.size + 1 + 1, 0, none⟩ = some (.int .u32 (W k.k0)) ∧ w'.cell? ⟨w.heap.size + 1 + 1, 1, none⟩ = some (.int .u32 (W k.k1)) ∧ w'.cell? ⟨w.heap.size + 1 + 1, 2, none⟩ = some (.int .u32 (W k.k2)) ∧ w'.cell? ⟨w.heap.size + 1 + 1, 3, none⟩ = some (.int .u32 (W k.k3)) ∧ w'.cell? ⟨w.heap.size + 1 + 1, 4, none⟩ = some (.int .u32 (W k.k4)) ∧ w'.cell? ⟨w.heap.size + 1 + 1, 5, none⟩ = some (.int .u32 (W k.k5)) ∧ w'.cell? ⟨w.heap.size + 1 + 1, 6, none⟩ = some (.int .u32 (W k.k6)) ∧ w'.cell? ⟨w.heap.size + 1 + 1, 7, none⟩ = some (.int .u32 (W k.k7)) ∧ Bts w' A l ∧ Bts w' A13 r13 ∧ Bts w' none [] ∧ Kp w A l w') (fun _ => True) (by kernel_rfl) (env16_keep HS5.out (Below.refl _ _).drew) trivial ?_
    show Go_ _ _ _ _ _ _ _ _ _ _ (World.drew _)
    refine Go_.take (i := 0) (oi := ⟨some 28, Op.load 28 (Operand.tmp 11), 28, _, _, none⟩) (v := ?_) rfl (by kernel_rfl) (by kernel_rfl) (by kernel_rfl) rfl (fun _ _ _ h => h) (Or.inl ⟨by rfl, ?_⟩) ?_
    rotate_left; · intro w0 hS; obtain ⟨c0, c1, c2, c3, c4, c5, c6, c7, c8, c9, c10, c11, c12, c13, c14, c15, cA, cB3, cB4, cK⟩ := hS; go_simp; try with_reducible rfl
    try simp only [Act.put, List.setIfInBounds_toArray, List.set_cons_zero, List.set_cons_succ]
    refine Go_.take (i := 1) (oi := ⟨some 29, Op.move (Operand.tmp 2), 3, _, _, none⟩) (v := ?_) rfl (by kernel_rfl) (by kernel_rfl) (by kernel_rfl) rfl (fun _ _ _ h => h) (Or.inl ⟨by rfl, ?_⟩) ?_
    rotate_left; · intro w0 _; go_simp; try with_reducible rfl
    try simp only [Act.put, List.setIfInBounds_toArray, List.set_cons_zero, List.set_cons_succ]
    refine Go_.take (i := 2) (oi := ⟨some 30, Op.load 28 (Operand.tmp 12), 28, _, _, none⟩) (v := ?_) rfl (by kernel_rfl) (by kernel_rfl) (by kernel_rfl) rfl (fun _ _ _ h => h) (Or.inl ⟨by rfl, ?_⟩) ?_
    rotate_left; · intro w0 hS; obtain ⟨c0, c1, c2, c3, c4, c5, c6, c7, c8, c9, c10, c11, c12, c13, c14, c15, cA, cB3, cB4, cK⟩ := hS; go_simp; try with_reducible rfl
    try simp only [Act.put, List.setIfInBounds_toArray, List.set_cons_zero, List.set_cons_succ]
    refine Go_.take (i := 3) (oi := ⟨some 31, Op.move (Operand.tmp 3), 3, _, _, none⟩) (v := ?_) rfl (by kernel_rfl) (by kernel_rfl) (by kernel_rfl) rfl (fun _ _ _ h => h) (Or.inl ⟨by rfl, ?_⟩) ?_
    rotate_left; · intro w0 _; go_simp; try with_reducible rfl
    try simp only [Act.put, List.setIfInBounds_toArray, List.set_cons_zero, List.set_cons_succ]
    refine Go_.take (i := 4) (oi := ⟨some 32, Op.move (Operand.tmp 4), 24, _, _, none⟩) (v := ?_) rfl (by kernel_rfl) (by kernel_rfl) (by kernel_rfl) rfl (fun _ _ _ h => h) (Or.inl ⟨by rfl, ?_⟩) ?_
    rotate_left; · intro w0 _; go_simp; try with_reducible rfl
    try simp only [Act.put, List.setIfInBounds_toArray, List.set_cons_zero, List.set_cons_succ]
    refine Go_.step (i := 5) (o := ⟨some 33, Op.call { callee := Callee.value (Operand.func 48), args := #[Operand.tmp 30, Operand.tmp 31, Operand.tmp 32], argTypes := #[28, 3, 24] }, 24, _, _, none⟩) (by kernel_rfl) rfl (fun K hT hK => ?_)
    replace hT := hT.1
    rw [if_pos (by rfl)]
    go_simp
    refine (lb_xor k _ q A l c (by omega) (env16_kp hT).1.2.2).mono ?_
    rintro e w' ⟨A6, c6, r6, rfl, hr6, hl6, hB6, hbx⟩
    refine hK.out _ _ (Till.of (env16_keep hT hbx)) ?_
    clear hT hK K
    refine Go_.step (i := 6) (o := ⟨some 34, Op.call { callee := Callee.value (Operand.func 48), args := #[Operand.tmp 28, Operand.tmp 29, Operand.tmp 33], argTypes := #[28, 3, 24] }, 24, _, _, none⟩) (by kernel_rfl) rfl (fun K hT hK => ?_)
    replace hT := hT.1
    rw [if_pos (by rfl)]
    go_simp
    refine (lb_xor k _ p A6 r6 c6 (by have := hl6.out; omega) hB6).mono ?_
    rintro e w' ⟨A14, c14, r14, rfl, hr14, hl14, hB14, hbx⟩
    obtain rfl : r14 = r13 := lk_comm hr5.out hr13.out hr6.out hr14.out
    have HS6 := Lib.hid (env16_with hT hbx ((env16_kp hT).2.1.below hbx) hB14)
    refine hK.out _ _ (Till.of (env16_keep hT hbx)) ?_
    clear hT hK K
    refine Go_.take (i := 7) (oi := ⟨some 14, Op.assign (Operand.tmp 34), 24, _, _, none⟩) (v := ?_) rfl (by kernel_rfl) (by kernel_rfl) (by kernel_rfl) rfl (fun _ _ _ h => h) (Or.inl ⟨by rfl, ?_⟩) ?_
    rotate_left; · intro w0 _; go_simp; try with_reducible rfl
    try simp only [Act.put, List.setIfInBounds_toArray, List.set_cons_zero, List.set_cons_succ]
    refine Go_.done (by kernel_rfl) ?_
    clear HS5
    go_wp2_with fail
    refine wp_region_till 33 (fun w' => w'.cell? ⟨w.heap.size + 1 + 1 + 1, 0, none⟩ = some (.int .u32 (W k.k0)) ∧ w'.cell? ⟨w.heap.size + 1 + 1 + 1, 1, none⟩ = some (.int .u32 (W k.k1)) ∧ w'.cell? ⟨w.heap.size + 1 + 1 + 1, 2, none⟩ = some (.int .u32 (W k.k2)) ∧ w'.cell? ⟨w.heap.size + 1 + 1 + 1, 3, none⟩ = some (.int .u32 (W k.k3)) ∧ w'.cell? ⟨w.heap.size + 1 + 1 + 1, 4, none⟩ = some (.int .u32 (W k.k4)) ∧ w'.cell? ⟨w.heap.size + 1 + 1 + 1, 5, none⟩ = some (.int .u32 (W k.k5)) ∧ w'.cell? ⟨w.heap.size + 1 + 1 + 1, 6, none⟩ = some (.int .u32 (W k.k6)) ∧ w'.cell? ⟨w.heap.size + 1 + 1 + 1, 7, none⟩ = some (.int .u32 (W k.k7)) ∧ w'.cell? ⟨w.heap.size + 1 + 1, 0, none⟩ = some (.int .u32 (W k.k0)) ∧ w'.cell? ⟨w.heap.size + 1 + 1, 1, none⟩ = some (.int .u32 (W k.k1)) ∧ w'.cell? ⟨w.heap.size + 1 + 1, 2, none⟩ = some (.int .u32 (W k.k2)) ∧ w'.cell? ⟨w.heap.size + 1 + 1, 3, none⟩ = some (.int .u32 (W k.k3)) ∧ w'.cell? ⟨w.heap.size + 1 + 1, 4, none⟩ = some (.int .u32 (W k.k4)) ∧ w'.cell? ⟨w.heap.size + 1 + 1, 5, none⟩ = some (.int .u32 (W k.k5)) ∧ w'.cell? ⟨w.heap.size + 1 + 1, 6, none⟩ = some (.int .u32 (W k.k6)) ∧ w'.cell? ⟨w.heap.size + 1 + 1, 7, none⟩ = some (.int .u32 (W k.k7)) ∧ Bts w' A l ∧ Bts w' A13 r14 ∧ Bts w' A14 r14 ∧ Kp w A l w') (fun _ => True) (by kernel_rfl) (env16_keep HS6.out (Below.refl _ _).drew) trivial ?_
    show Go_ _ _ _ _ _ _ _ _ _ _ (World.drew _)
    refine Go_.step (i := 0) (o := ⟨some 35, Op.call { callee := Callee.value (Operand.func 43), args := #[], argTypes := #[] }, 4, _, _, none⟩) (by kernel_rfl) rfl (fun K hT hK => ?_)
    replace hT := hT.1
    rw [if_pos (by rfl)]
    go_simp
    refine (told14 _).mono ?_
    rintro e w' ⟨rfl, hbx⟩
    refine hK.out _ _ (Till.of (env16_keep hT hbx)) ?_
    clear hT hK K
    refine Go_.take (i := 1) (oi := ⟨some 36, Op.move (Operand.tmp 35), 4, _, _, none⟩) (v := ?_) rfl (by kernel_rfl) (by kernel_rfl) (by kernel_rfl) rfl (fun _ _ _ h => h) (Or.inl ⟨by rfl, ?_⟩) ?_
    rotate_left; · intro w0 _; go_simp; try with_reducible rfl
    try simp only [Act.put, List.setIfInBounds_toArray, List.set_cons_zero, List.set_cons_succ]
    refine Go_.take (i := 2) (oi := ⟨some 37, Op.load 28 (Operand.tmp 11), 28, _, _, some (1, true)⟩) (v := ?_) rfl (by kernel_rfl) (by kernel_rfl) (by kernel_rfl) rfl (fun _ _ _ h => h) (Or.inl ⟨by rfl, ?_⟩) ?_
    rotate_left; · intro w0 hS; obtain ⟨c0, c1, c2, c3, c4, c5, c6, c7, c8, c9, c10, c11, c12, c13, c14, c15, cA, cB3, cB4, cK⟩ := hS; go_simp; try with_reducible rfl
    try simp only [Act.put, List.setIfInBounds_toArray, List.set_cons_zero, List.set_cons_succ]
    refine Go_.take (i := 4) (oi := ⟨some 39, Op.load 28 (Operand.tmp 12), 28, _, _, some (1, true)⟩) (v := ?_) rfl (by kernel_rfl) (by kernel_rfl) (by kernel_rfl) rfl (fun _ _ _ h => h) (Or.inl ⟨by rfl, ?_⟩) ?_
    rotate_left; · intro w0 hS; obtain ⟨c0, c1, c2, c3, c4, c5, c6, c7, c8, c9, c10, c11, c12, c13, c14, c15, cA, cB3, cB4, cK⟩ := hS; go_simp; try with_reducible rfl
    try simp only [Act.put, List.setIfInBounds_toArray, List.set_cons_zero, List.set_cons_succ]
    refine Go_.take (i := 7) (oi := ⟨some 42, Op.load 28 (Operand.tmp 11), 28, _, _, some (1, true)⟩) (v := ?_) rfl (by kernel_rfl) (by kernel_rfl) (by kernel_rfl) rfl (fun _ _ _ h => h) (Or.inl ⟨by rfl, ?_⟩) ?_
    rotate_left; · intro w0 hS; obtain ⟨c0, c1, c2, c3, c4, c5, c6, c7, c8, c9, c10, c11, c12, c13, c14, c15, cA, cB3, cB4, cK⟩ := hS; go_simp; try with_reducible rfl
    try simp only [Act.put, List.setIfInBounds_toArray, List.set_cons_zero, List.set_cons_succ]
    refine Go_.take (i := 8) (oi := ⟨some 43, Op.load 28 (Operand.tmp 12), 28, _, _, some (1, true)⟩) (v := ?_) rfl (by kernel_rfl) (by kernel_rfl) (by kernel_rfl) rfl (fun _ _ _ h => h) (Or.inl ⟨by rfl, ?_⟩) ?_
    rotate_left; · intro w0 hS; obtain ⟨c0, c1, c2, c3, c4, c5, c6, c7, c8, c9, c10, c11, c12, c13, c14, c15, cA, cB3, cB4, cK⟩ := hS; go_simp; try with_reducible rfl
    try simp only [Act.put, List.setIfInBounds_toArray, List.set_cons_zero, List.set_cons_succ]
    refine Go_.take (i := 9) (oi := ⟨some 44, Op.binOp BinOp.eql 28 (Operand.tmp 42) (Operand.tmp 43) 28, 4, _, _, some (1, true)⟩) (v := ?_) rfl (by kernel_rfl) (by kernel_rfl) (by kernel_rfl) rfl (fun _ _ _ h => h) (Or.inl ⟨by rfl, ?_⟩) ?_
    rotate_left; · intro w0 _; go_simp; try with_reducible rfl
    try simp only [Act.put, List.setIfInBounds_toArray, List.set_cons_zero, List.set_cons_succ]
    refine Go_.step (i := 3) (o := ⟨some 38, Op.call { callee := Callee.value (Operand.func 41), args := #[Operand.tmp 37], argTypes := #[28] }, 28, _, _, some (1, true)⟩) (by kernel_rfl) rfl (fun K hT hK => ?_)
    replace hT := hT.1
    rw [if_pos (by rfl)]
    go_simp
    refine (lk_mix k M hM _).mono ?_
    rintro e w' ⟨rfl, hbx⟩
    refine hK.out _ _ (Till.of (env16_keep hT hbx)) ?_
    clear hT hK K
    refine Go_.step (i := 5) (o := ⟨some 40, Op.call { callee := Callee.value (Operand.func 41), args := #[Operand.tmp 39], argTypes := #[28] }, 28, _, _, some (1, true)⟩) (by kernel_rfl) rfl (fun K hT hK => ?_)
    replace hT := hT.1
    rw [if_pos (by rfl)]
    go_simp
    refine (lk_mix k M hM _).mono ?_
    rintro e w' ⟨rfl, hbx⟩
    refine hK.out _ _ (Till.of (env16_keep hT hbx)) ?_
    clear hT hK K
    refine Go_.take (i := 6) (oi := ⟨some 41, Op.binOp BinOp.eql 28 (Operand.tmp 38) (Operand.tmp 40) 28, 4, _, _, some (1, true)⟩) (v := ?_) rfl (by kernel_rfl) (by kernel_rfl) (by kernel_rfl) rfl (fun _ _ _ h => h) (Or.inl ⟨by rfl, ?_⟩) ?_
    rotate_left; · intro w0 _; go_simp; try with_reducible rfl
    try simp only [Act.put, List.setIfInBounds_toArray, List.set_cons_zero, List.set_cons_succ]
    refine Go_.take (i := 10) (oi := ⟨some 45, Op.binOp BinOp.eql 4 (Operand.tmp 41) (Operand.tmp 44) 4, 4, _, _, some (1, true)⟩) (v := ?_) rfl (by kernel_rfl) (by kernel_rfl) (by kernel_rfl) rfl (fun _ _ _ h => h) (Or.inl ⟨by rfl, ?_⟩) ?_
    rotate_left; · intro w0 _; go_simp; try with_reducible rfl
    try simp only [Act.put, List.setIfInBounds_toArray, List.set_cons_zero, List.set_cons_succ]
    refine Go_.take (i := 11) (oi := ⟨some 46, Op.pick (Operand.tmp 36) (Operand.tmp 45) (Operand.const (Value.bool false)), 4, _, _, none⟩) (v := ?_) rfl (by kernel_rfl) (by kernel_rfl) (by kernel_rfl) rfl (fun _ _ _ h => h) (Or.inl ⟨by rfl, ?_⟩) ?_
    rotate_left; · intro w0 _; go_simp; try with_reducible rfl
    try simp only [Act.put, List.setIfInBounds_toArray, List.set_cons_zero, List.set_cons_succ]
    refine Go_.take (i := 12) (oi := ⟨some 47, Op.move (Operand.tmp 46), 4, _, _, none⟩) (v := ?_) rfl (by kernel_rfl) (by kernel_rfl) (by kernel_rfl) rfl (fun _ _ _ h => h) (Or.inl ⟨by rfl, ?_⟩) ?_
    rotate_left; · intro w0 _; go_simp; try with_reducible rfl
    try simp only [Act.put, List.setIfInBounds_toArray, List.set_cons_zero, List.set_cons_succ]
    refine Go_.take (i := 13) (oi := ⟨some 48, Op.move (Operand.tmp 13), 24, _, _, some (12, true)⟩) (v := ?_) rfl (by kernel_rfl) (by kernel_rfl) (by kernel_rfl) rfl (fun _ _ _ h => h) (Or.inl ⟨by rfl, ?_⟩) ?_
    rotate_left; · intro w0 _; go_simp; try with_reducible rfl
    try simp only [Act.put, List.setIfInBounds_toArray, List.set_cons_zero, List.set_cons_succ]
    refine Go_.take (i := 14) (oi := ⟨some 49, Op.convert 24 9 (Operand.tmp 48), 9, _, _, some (12, true)⟩) (v := ?_) rfl (by kernel_rfl) (by kernel_rfl) (by kernel_rfl) rfl (fun _ _ _ h => h) (Or.inl ⟨by rfl, ?_⟩) ?_
    rotate_left; · intro w0 hS; obtain ⟨c0, c1, c2, c3, c4, c5, c6, c7, c8, c9, c10, c11, c12, c13, c14, c15, cA, cB3, cB4, cK⟩ := hS; go_simp; try with_reducible rfl
    try simp only [Act.put, List.setIfInBounds_toArray, List.set_cons_zero, List.set_cons_succ]
    refine Go_.take (i := 15) (oi := ⟨some 50, Op.move (Operand.tmp 14), 24, _, _, some (12, true)⟩) (v := ?_) rfl (by kernel_rfl) (by kernel_rfl) (by kernel_rfl) rfl (fun _ _ _ h => h) (Or.inl ⟨by rfl, ?_⟩) ?_
    rotate_left; · intro w0 _; go_simp; try with_reducible rfl
    try simp only [Act.put, List.setIfInBounds_toArray, List.set_cons_zero, List.set_cons_succ]
    refine Go_.take (i := 16) (oi := ⟨some 51, Op.convert 24 9 (Operand.tmp 50), 9, _, _, some (12, true)⟩) (v := ?_) rfl (by kernel_rfl) (by kernel_rfl) (by kernel_rfl) rfl (fun _ _ _ h => h) (Or.inl ⟨by rfl, ?_⟩) ?_
    rotate_left; · intro w0 hS; obtain ⟨c0, c1, c2, c3, c4, c5, c6, c7, c8, c9, c10, c11, c12, c13, c14, c15, cA, cB3, cB4, cK⟩ := hS; go_simp; try with_reducible rfl
    try simp only [Act.put, List.setIfInBounds_toArray, List.set_cons_zero, List.set_cons_succ]
    refine Go_.take (i := 17) (oi := ⟨some 52, Op.binOp BinOp.eql 9 (Operand.tmp 49) (Operand.tmp 51) 9, 4, _, _, some (12, true)⟩) (v := ?_) rfl (by kernel_rfl) (by kernel_rfl) (by kernel_rfl) rfl (fun _ _ _ h => h) (Or.inl ⟨by rfl, ?_⟩) ?_
    rotate_left; · intro w0 _; go_simp; try with_reducible rfl
    try simp only [Act.put, List.setIfInBounds_toArray, List.set_cons_zero, List.set_cons_succ]
    refine Go_.take (i := 18) (oi := ⟨some 53, Op.pick (Operand.tmp 47) (Operand.tmp 52) (Operand.const (Value.bool false)), 4, _, _, none⟩) (v := ?_) rfl (by kernel_rfl) (by kernel_rfl) (by kernel_rfl) rfl (fun _ _ _ h => h) (Or.inl ⟨by rfl, ?_⟩) ?_
    rotate_left; · intro w0 _; go_simp; try with_reducible rfl
    try simp only [Act.put, List.setIfInBounds_toArray, List.set_cons_zero, List.set_cons_succ]
    refine Go_.take (i := 19) (oi := ⟨some 54, Op.move (Operand.tmp 53), 4, _, _, none⟩) (v := ?_) rfl (by kernel_rfl) (by kernel_rfl) (by kernel_rfl) rfl (fun _ _ _ h => h) (Or.inl ⟨by rfl, ?_⟩) ?_
    rotate_left; · intro w0 _; go_simp; try with_reducible rfl
    try simp only [Act.put, List.setIfInBounds_toArray, List.set_cons_zero, List.set_cons_succ]
    refine Go_.take (i := 20) (oi := ⟨some 55, Op.load 28 (Operand.tmp 11), 28, _, _, some (19, true)⟩) (v := ?_) rfl (by kernel_rfl) (by kernel_rfl) (by kernel_rfl) rfl (fun _ _ _ h => h) (Or.inl ⟨by rfl, ?_⟩) ?_
    rotate_left; · intro w0 hS; obtain ⟨c0, c1, c2, c3, c4, c5, c6, c7, c8, c9, c10, c11, c12, c13, c14, c15, cA, cB3, cB4, cK⟩ := hS; go_simp; try with_reducible rfl
    try simp only [Act.put, List.setIfInBounds_toArray, List.set_cons_zero, List.set_cons_succ]
    refine Go_.take (i := 21) (oi := ⟨some 56, Op.move (Operand.tmp 2), 3, _, _, some (19, true)⟩) (v := ?_) rfl (by kernel_rfl) (by kernel_rfl) (by kernel_rfl) rfl (fun _ _ _ h => h) (Or.inl ⟨by rfl, ?_⟩) ?_
    rotate_left; · intro w0 _; go_simp; try with_reducible rfl
    try simp only [Act.put, List.setIfInBounds_toArray, List.set_cons_zero, List.set_cons_succ]
    refine Go_.take (i := 22) (oi := ⟨some 57, Op.load 28 (Operand.tmp 12), 28, _, _, some (19, true)⟩) (v := ?_) rfl (by kernel_rfl) (by kernel_rfl) (by kernel_rfl) rfl (fun _ _ _ h => h) (Or.inl ⟨by rfl, ?_⟩) ?_
    rotate_left; · intro w0 hS; obtain ⟨c0, c1, c2, c3, c4, c5, c6, c7, c8, c9, c10, c11, c12, c13, c14, c15, cA, cB3, cB4, cK⟩ := hS; go_simp; try with_reducible rfl
    try simp only [Act.put, List.setIfInBounds_toArray, List.set_cons_zero, List.set_cons_succ]
    refine Go_.take (i := 23) (oi := ⟨some 58, Op.move (Operand.tmp 3), 3, _, _, some (19, true)⟩) (v := ?_) rfl (by kernel_rfl) (by kernel_rfl) (by kernel_rfl) rfl (fun _ _ _ h => h) (Or.inl ⟨by rfl, ?_⟩) ?_
    rotate_left; · intro w0 _; go_simp; try with_reducible rfl
    try simp only [Act.put, List.setIfInBounds_toArray, List.set_cons_zero, List.set_cons_succ]
    refine Go_.take (i := 24) (oi := ⟨some 59, Op.move (Operand.tmp 13), 24, _, _, some (19, true)⟩) (v := ?_) rfl (by kernel_rfl) (by kernel_rfl) (by kernel_rfl) rfl (fun _ _ _ h => h) (Or.inl ⟨by rfl, ?_⟩) ?_
    rotate_left; · intro w0 _; go_simp; try with_reducible rfl
    try simp only [Act.put, List.setIfInBounds_toArray, List.set_cons_zero, List.set_cons_succ]
    refine Go_.take (i := 28) (oi := ⟨some 63, Op.move (Operand.tmp 4), 24, _, _, some (19, true)⟩) (v := ?_) rfl (by kernel_rfl) (by kernel_rfl) (by kernel_rfl) rfl (fun _ _ _ h => h) (Or.inl ⟨by rfl, ?_⟩) ?_
    rotate_left; · intro w0 _; go_simp; try with_reducible rfl
    try simp only [Act.put, List.setIfInBounds_toArray, List.set_cons_zero, List.set_cons_succ]
    refine Go_.take (i := 29) (oi := ⟨some 64, Op.convert 24 9 (Operand.tmp 63), 9, _, _, some (19, true)⟩) (v := ?_) rfl (by kernel_rfl) (by kernel_rfl) (by kernel_rfl) rfl (fun _ _ _ h => h) (Or.inl ⟨by rfl, ?_⟩) ?_
    rotate_left; · intro w0 hS; obtain ⟨c0, c1, c2, c3, c4, c5, c6, c7, c8, c9, c10, c11, c12, c13, c14, c15, cA, cB3, cB4, cK⟩ := hS; go_simp; try with_reducible rfl
    try simp only [Act.put, List.setIfInBounds_toArray, List.set_cons_zero, List.set_cons_succ]
    refine Go_.step (i := 25) (o := ⟨some 60, Op.call { callee := Callee.value (Operand.func 48), args := #[Operand.tmp 57, Operand.tmp 58, Operand.tmp 59], argTypes := #[28, 3, 24] }, 24, _, _, some (19, true)⟩) (by kernel_rfl) rfl (fun K hT hK => ?_)
    replace hT := hT.1
    rw [if_pos (by rfl)]
    go_simp
    refine (lb_xor k _ q A13 r14 c13 (by have h5 := hl5.out; have h13 := hl13.out; omega) (env16_kp hT).2.1).mono ?_
    rintro e w' ⟨A25, c25, r25, rfl, hr25, hl25, hB25, hbx⟩
    refine hK.out _ _ (Till.of (env16_keep hT hbx)) ?_
    clear hT hK K
    refine Go_.step (i := 26) (o := ⟨some 61, Op.call { callee := Callee.value (Operand.func 48), args := #[Operand.tmp 55, Operand.tmp 56, Operand.tmp 60], argTypes := #[28, 3, 24] }, 24, _, _, some (19, true)⟩) (by kernel_rfl) rfl (fun K hT hK => ?_)
    replace hT := hT.1
    rw [if_pos (by rfl)]
    go_simp
    refine (lb_xor k _ p A25 r25 c25 (by have h5 := hl5.out; have h13 := hl13.out; have h25 := hl25.out; omega) hB25).mono ?_
    rintro e w' ⟨A26, c26, r26, rfl, hr26, hl26, hB26, hbx⟩
    have hfin := (env16_kp (env16_keep hT hbx)).1.below
    refine hK.out _ _ (Till.of (env16_keep hT hbx)) ?_
    clear hT hK K
    refine Go_.raise (C := fun w0 => Bts w0 A26 r26) hB26 ?_
    refine Go_.take (i := 27) (oi := ⟨some 62, Op.convert 24 9 (Operand.tmp 61), 9, _, _, some (19, true)⟩) (v := ?_) rfl (by kernel_rfl) (by kernel_rfl) (by kernel_rfl) rfl (fun _ _ _ h => h) (Or.inl ⟨by rfl, ?_⟩) ?_
    rotate_left; · intro w0 hS; obtain ⟨⟨c0, c1, c2, c3, c4, c5, c6, c7, c8, c9, c10, c11, c12, c13, c14, c15, cA, cB3, cB4, cK⟩, cB26⟩ := hS; go_simp; try with_reducible rfl
    try simp only [Act.put, List.setIfInBounds_toArray, List.set_cons_zero, List.set_cons_succ]
    refine Go_.take (i := 30) (oi := ⟨some 65, Op.binOp BinOp.eql 9 (Operand.tmp 62) (Operand.tmp 64) 9, 4, _, _, some (19, true)⟩) (v := ?_) rfl (by kernel_rfl) (by kernel_rfl) (by kernel_rfl) rfl (fun _ _ _ h => h) (Or.inl ⟨by rfl, ?_⟩) ?_
    rotate_left; · intro w0 _; go_simp; try with_reducible rfl
    try simp only [Act.put, List.setIfInBounds_toArray, List.set_cons_zero, List.set_cons_succ]
    refine Go_.take (i := 31) (oi := ⟨some 66, Op.pick (Operand.tmp 54) (Operand.tmp 65) (Operand.const (Value.bool false)), 4, _, _, none⟩) (v := ?_) rfl (by kernel_rfl) (by kernel_rfl) (by kernel_rfl) rfl (fun _ _ _ h => h) (Or.inl ⟨by rfl, ?_⟩) ?_
    rotate_left; · intro w0 _; go_simp; try with_reducible rfl
    try simp only [Act.put, List.setIfInBounds_toArray, List.set_cons_zero, List.set_cons_succ]
    refine Go_.take (i := 32) (oi := ⟨some 10, Op.assign (Operand.tmp 66), 4, _, _, none⟩) (v := ?_) rfl (by kernel_rfl) (by kernel_rfl) (by kernel_rfl) rfl (fun _ _ _ h => h) (Or.inl ⟨by rfl, ?_⟩) ?_
    rotate_left; · intro w0 _; go_simp; try with_reducible rfl
    try simp only [Act.put, List.setIfInBounds_toArray, List.set_cons_zero, List.set_cons_succ]
    refine Go_.done (by kernel_rfl) ?_
    go_wp2
    go_ret
    refine ⟨ret_bool3 ?_, hfin⟩
    rw [lk_fin hr5.out hr13.out hr25.out hr26.out]
    simp
end
section
attribute [local go_sem ↓] eql_28_ne run_str'
set_option maxRecDepth 20000 in
set_option maxHeartbeats 16000000 in
theorem lk_ne (k m : K8) (hkm : k ≠ m) (p q : Int) (A : Option Addr) (l : List UInt8) (c : Nat) (w : World) (hB : Bts w A l) (h100 : ¬ 100 < l.length) :
    Calls Try.prog 19 #[.agg k.vals.toArray, .agg m.vals.toArray, .int .i64 p, .int .i64 q, .slice A l.length c] w fun e w' => e = .returned (.bool true) ∧ Below w.heap.size w w' := by
  obtain ⟨M, hM⟩ : ∃ M, Hid (M = mix k) := ⟨_, rfl⟩
  obtain ⟨N, hN⟩ : ∃ N, Hid (N = mix m) := ⟨_, rfl⟩
  have hn1 := ne8_of hkm
  have hn2 : M ≠ N := fun e => hkm (mix_inj (by rw [← hM.out, ← hN.out, e]))
  replace hn2 := ne8_of hn2
  clear hkm
  have HSa := Lib.hid (env16_start (w0 := w) (A := A) (l := l) (w1 := ((((w.alloc (.cells k.vals.toArray 23)).alloc (.cells m.vals.toArray 23)).alloc (.cells k.vals.toArray 28)).alloc (.cells m.vals.toArray 28)).drew.drew) (((Holds.newAt ((w.alloc (.cells k.vals.toArray 23)).alloc (.cells m.vals.toArray 23)) 28 k.vals (n := w.heap.size + 1 + 1) (by simp)).alloc (.cells m.vals.toArray 28)).drew.drew) ((Holds.newAt (((w.alloc (.cells k.vals.toArray 23)).alloc (.cells m.vals.toArray 23)).alloc (.cells k.vals.toArray 28)) 28 m.vals (n := w.heap.size + 1 + 1 + 1) (by simp)).drew.drew) ⟨(((((Below.refl _ _).alloc (Nat.le_refl _) (.cells k.vals.toArray 23)).alloc (by simp) (.cells m.vals.toArray 23)).alloc (by simp; omega) _).alloc (by simp; omega) _).drew.drew, by simp; omega, (((hB.alloc _).alloc _).alloc _).alloc _⟩)
  have HSb := Lib.hid (env16_start (w0 := w) (A := A) (l := l) (w1 := ((((w.alloc (.cells k.vals.toArray 23)).alloc (.cells m.vals.toArray 23)).alloc (.cells m.vals.toArray 28)).alloc (.cells k.vals.toArray 28)).drew.drew) ((Holds.newAt (((w.alloc (.cells k.vals.toArray 23)).alloc (.cells m.vals.toArray 23)).alloc (.cells m.vals.toArray 28)) 28 k.vals (n := w.heap.size + 1 + 1 + 1) (by simp)).drew.drew) (((Holds.newAt ((w.alloc (.cells k.vals.toArray 23)).alloc (.cells m.vals.toArray 23)) 28 m.vals (n := w.heap.size + 1 + 1) (by simp)).alloc (.cells k.vals.toArray 28)).drew.drew) ⟨(((((Below.refl _ _).alloc (Nat.le_refl _) (.cells k.vals.toArray 23)).alloc (by simp) (.cells m.vals.toArray 23)).alloc (by simp; omega) _).alloc (by simp; omega) _).drew.drew, by simp; omega, (((hB.alloc _).alloc _).alloc _).alloc _⟩)
  unfold K8.vals at *
  go_enter Try.func19, Try.ntmps19
  go_wp2_with fail
  clear hB
  go_region
  all_goals (go_wp2_with fail)
  · refine wp_region_till 8 (fun w' => w'.cell? ⟨w.heap.size + 1 + 1, 0, none⟩ = some (.int .u32 (W k.k0)) ∧ w'.cell? ⟨w.heap.size + 1 + 1, 1, none⟩ = some (.int .u32 (W k.k1)) ∧ w'.cell? ⟨w.heap.size + 1 + 1, 2, none⟩ = some (.int .u32 (W k.k2)) ∧ w'.cell? ⟨w.heap.size + 1 + 1, 3, none⟩ = some (.int .u32 (W k.k3)) ∧ w'.cell? ⟨w.heap.size + 1 + 1, 4, none⟩ = some (.int .u32 (W k.k4)) ∧ w'.cell? ⟨w.heap.size + 1 + 1, 5, none⟩ = some (.int .u32 (W k.k5)) ∧ w'.cell? ⟨w.heap.size + 1 + 1, 6, none⟩ = some (.int .u32 (W k.k6)) ∧ w'.cell? ⟨w.heap.size + 1 + 1, 7, none⟩ = some (.int .u32 (W k.k7)) ∧ w'.cell? ⟨w.heap.size + 1 + 1 + 1, 0, none⟩ = some (.int .u32 (W m.k0)) ∧ w'.cell? ⟨w.heap.size + 1 + 1 + 1, 1, none⟩ = some (.int .u32 (W m.k1)) ∧ w'.cell? ⟨w.heap.size + 1 + 1 + 1, 2, none⟩ = some (.int .u32 (W m.k2)) ∧ w'.cell? ⟨w.heap.size + 1 + 1 + 1, 3, none⟩ = some (.int .u32 (W m.k3)) ∧ w'.cell? ⟨w.heap.size + 1 + 1 + 1, 4, none⟩ = some (.int .u32 (W m.k4)) ∧ w'.cell? ⟨w.heap.size + 1 + 1 + 1, 5, none⟩ = some (.int .u32 (W m.k5)) ∧ w'.cell? ⟨w.heap.size + 1 + 1 + 1, 6, none⟩ = some (.int .u32 (W m.k6)) ∧ w'.cell? ⟨w.heap.size + 1 + 1 + 1, 7, none⟩ = some (.int .u32 (W m.k7)) ∧ Bts w' A l ∧ Bts w' none [] ∧ Bts w' none [] ∧ Kp w A l w') (fun _ => True) (by kernel_rfl) (HSa.out) trivial ?_
    show Go_ _ _ _ _ _ _ _ _ _ _ (World.drew _)
    refine Go_.take (i := 0) (oi := ⟨some 21, Op.load 28 (Operand.tmp 12), 28, _, _, none⟩) (v := ?_) rfl (by kernel_rfl) (by kernel_rfl) (by kernel_rfl) rfl (fun _ _ _ h => h) (Or.inl ⟨by rfl, ?_⟩) ?_
    rotate_left; · intro w0 hS; obtain ⟨c0, c1, c2, c3, c4, c5, c6, c7, c8, c9, c10, c11, c12, c13, c14, c15, cA, cB3, cB4, cK⟩ := hS; go_simp; try with_reducible rfl
    try simp only [Act.put, List.setIfInBounds_toArray, List.set_cons_zero, List.set_cons_succ]
    refine Go_.take (i := 1) (oi := ⟨some 22, Op.move (Operand.tmp 3), 3, _, _, none⟩) (v := ?_) rfl (by kernel_rfl) (by kernel_rfl) (by kernel_rfl) rfl (fun _ _ _ h => h) (Or.inl ⟨by rfl, ?_⟩) ?_
    rotate_left; · intro w0 _; go_simp; try with_reducible rfl
    try simp only [Act.put, List.setIfInBounds_toArray, List.set_cons_zero, List.set_cons_succ]
    refine Go_.take (i := 2) (oi := ⟨some 23, Op.load 28 (Operand.tmp 11), 28, _, _, none⟩) (v := ?_) rfl (by kernel_rfl) (by kernel_rfl) (by kernel_rfl) rfl (fun _ _ _ h => h) (Or.inl ⟨by rfl, ?_⟩) ?_
    rotate_left; · intro w0 hS; obtain ⟨c0, c1, c2, c3, c4, c5, c6, c7, c8, c9, c10, c11, c12, c13, c14, c15, cA, cB3, cB4, cK⟩ := hS; go_simp; try with_reducible rfl
    try simp only [Act.put, List.setIfInBounds_toArray, List.set_cons_zero, List.set_cons_succ]
    refine Go_.take (i := 3) (oi := ⟨some 24, Op.move (Operand.tmp 2), 3, _, _, none⟩) (v := ?_) rfl (by kernel_rfl) (by kernel_rfl) (by kernel_rfl) rfl (fun _ _ _ h => h) (Or.inl ⟨by rfl, ?_⟩) ?_
    rotate_left; · intro w0 _; go_simp; try with_reducible rfl
    try simp only [Act.put, List.setIfInBounds_toArray, List.set_cons_zero, List.set_cons_succ]
    refine Go_.take (i := 4) (oi := ⟨some 25, Op.move (Operand.tmp 4), 24, _, _, none⟩) (v := ?_) rfl (by kernel_rfl) (by kernel_rfl) (by kernel_rfl) rfl (fun _ _ _ h => h) (Or.inl ⟨by rfl, ?_⟩) ?_
    rotate_left; · intro w0 _; go_simp; try with_reducible rfl
    try simp only [Act.put, List.setIfInBounds_toArray, List.set_cons_zero, List.set_cons_succ]
    refine Go_.step (i := 5) (o := ⟨some 26, Op.call { callee := Callee.value (Operand.func 48), args := #[Operand.tmp 23, Operand.tmp 24, Operand.tmp 25], argTypes := #[28, 3, 24] }, 24, _, _, none⟩) (by kernel_rfl) rfl (fun K hT hK => ?_)
    replace hT := hT.1
    rw [if_pos (by rfl)]
    go_simp
    refine (lb_xor k _ p A l c (by omega) (env16_kp hT).1.2.2).mono ?_
    rintro e w' ⟨A5, c5, r5, rfl, hr5, hl5, hB5, hbx⟩
    refine hK.out _ _ (Till.of (env16_keep hT hbx)) ?_
    clear hT hK K
    refine Go_.step (i := 6) (o := ⟨some 27, Op.call { callee := Callee.value (Operand.func 48), args := #[Operand.tmp 21, Operand.tmp 22, Operand.tmp 26], argTypes := #[28, 3, 24] }, 24, _, _, none⟩) (by kernel_rfl) rfl (fun K hT hK => ?_)
    replace hT := hT.1
    rw [if_pos (by rfl)]
    go_simp
    refine (lb_xor m _ q A5 r5 c5 (by have := hl5.out; omega) hB5).mono ?_
    rintro e w' ⟨A13, c13, r13, rfl, hr13, hl13, hB13, hbx⟩
    have HS5 := Lib.hid (env16_with (A6 := none) (l6 := []) hT hbx hB13 (Bts.nil _ _))
    refine hK.out _ _ (Till.of (env16_keep hT hbx)) ?_
    clear hT hK K
    refine Go_.take (i := 7) (oi := ⟨some 13, Op.assign (Operand.tmp 27), 24, _, _, none⟩) (v := ?_) rfl (by kernel_rfl) (by kernel_rfl) (by kernel_rfl) rfl (fun _ _ _ h => h) (Or.inl ⟨by rfl, ?_⟩) ?_
    rotate_left; · intro w0 _; go_simp; try with_reducible rfl
    try simp only [Act.put, List.setIfInBounds_toArray, List.set_cons_zero, List.set_cons_succ]
    refine Go_.done (by kernel_rfl) ?_
    clear HSa
    go_wp2_with fail
    refine wp_region_till 8 (fun w' => w'.cell? ⟨w.heap.size + 1 + 1, 0, none⟩ = some (.int .u32 (W k.k0)) ∧ w'.cell? ⟨w.heap.size + 1 + 1, 1, none⟩ = some (.int .u32 (W k.k1)) ∧ w'.cell? ⟨w.heap.size + 1 + 1, 2, none⟩ = some (.int .u32 (W k.k2)) ∧ w'.cell? ⟨w.heap.size + 1 + 1, 3, none⟩ = some (.int .u32 (W k.k3)) ∧ w'.cell? ⟨w.heap.size + 1 + 1, 4, none⟩ = some (.int .u32 (W k.k4)) ∧ w'.cell? ⟨w.heap.size + 1 + 1, 5, none⟩ = some (.int .u32 (W k.k5)) ∧ w'.cell? ⟨w.heap.size + 1 + 1, 6, none⟩ = some (.int .u32 (W k.k6)) ∧ w'.cell? ⟨w.heap.size + 1 + 1, 7, none⟩ = some (.int .u32 (W k.k7)) ∧ w'.cell? ⟨w.heap.size + 1 + 1 + 1, 0, none⟩ = some (.int .u32 (W m.k0)) ∧ w'.cell? ⟨w.heap.size + 1 + 1 + 1, 1, none⟩ = some (.int .u32 (W m.k1)) ∧ w'.cell? ⟨w.heap.size + 1 + 1 + 1, 2, none⟩ = some (.int .u32 (W m.k2)) ∧ w'.cell? ⟨w.heap.size + 1 + 1 + 1, 3, none⟩ = some (.int .u32 (W m.k3)) ∧ w'.cell? ⟨w.heap.size + 1 + 1 + 1, 4, none⟩ = some (.int .u32 (W m.k4)) ∧ w'.cell? ⟨w.heap.size + 1 + 1 + 1, 5, none⟩ = some (.int .u32 (W m.k5)) ∧ w'.cell? ⟨w.heap.size + 1 + 1 + 1, 6, none⟩ = some (.int .u32 (W m.k6)) ∧ w'.cell? ⟨w.heap.size + 1 + 1 + 1, 7, none⟩ = some (.int .u32 (W m.k7)) ∧ Bts w' A l ∧ Bts w' A13 r13 ∧ Bts w' none [] ∧ Kp w A l w') (fun _ => True) (by kernel_rfl) (env16_keep HS5.out (Below.refl _ _).drew) trivial ?_
    show Go_ _ _ _ _ _ _ _ _ _ _ (World.drew _)
    refine Go_.take (i := 0) (oi := ⟨some 28, Op.load 28 (Operand.tmp 11), 28, _, _, none⟩) (v := ?_) rfl (by kernel_rfl) (by kernel_rfl) (by kernel_rfl) rfl (fun _ _ _ h => h) (Or.inl ⟨by rfl, ?_⟩) ?_
    rotate_left; · intro w0 hS; obtain ⟨c0, c1, c2, c3, c4, c5, c6, c7, c8, c9, c10, c11, c12, c13, c14, c15, cA, cB3, cB4, cK⟩ := hS; go_simp; try with_reducible rfl
    try simp only [Act.put, List.setIfInBounds_toArray, List.set_cons_zero, List.set_cons_succ]
    refine Go_.take (i := 1) (oi := ⟨some 29, Op.move (Operand.tmp 2), 3, _, _, none⟩) (v := ?_) rfl (by kernel_rfl) (by kernel_rfl) (by kernel_rfl) rfl (fun _ _ _ h => h) (Or.inl ⟨by rfl, ?_⟩) ?_
    rotate_left; · intro w0 _; go_simp; try with_reducible rfl
    try simp only [Act.put, List.setIfInBounds_toArray, List.set_cons_zero, List.set_cons_succ]
    refine Go_.take (i := 2) (oi := ⟨some 30, Op.load 28 (Operand.tmp 12), 28, _, _, none⟩) (v := ?_) rfl (by kernel_rfl) (by kernel_rfl) (by kernel_rfl) rfl (fun _ _ _ h => h) (Or.inl ⟨by rfl, ?_⟩) ?_
    rotate_left; · intro w0 hS; obtain ⟨c0, c1, c2, c3, c4, c5, c6, c7, c8, c9, c10, c11, c12, c13, c14, c15, cA, cB3, cB4, cK⟩ := hS; go_simp; try with_reducible rfl
    try simp only [Act.put, List.setIfInBounds_toArray, List.set_cons_zero, List.set_cons_succ]
    refine Go_.take (i := 3) (oi := ⟨some 31, Op.move (Operand.tmp 3), 3, _, _, none⟩) (v := ?_) rfl (by kernel_rfl) (by kernel_rfl) (by kernel_rfl) rfl (fun _ _ _ h => h) (Or.inl ⟨by rfl, ?_⟩) ?_
    rotate_left; · intro w0 _; go_simp; try with_reducible rfl
    try simp only [Act.put, List.setIfInBounds_toArray, List.set_cons_zero, List.set_cons_succ]
    refine Go_.take (i := 4) (oi := ⟨some 32, Op.move (Operand.tmp 4), 24, _, _, none⟩) (v := ?_) rfl (by kernel_rfl) (by kernel_rfl) (by kernel_rfl) rfl (fun _ _ _ h => h) (Or.inl ⟨by rfl, ?_⟩) ?_
    rotate_left; · intro w0 _; go_simp; try with_reducible rfl
    try simp only [Act.put, List.setIfInBounds_toArray, List.set_cons_zero, List.set_cons_succ]
    refine Go_.step (i := 5) (o := ⟨some 33, Op.call { callee := Callee.value (Operand.func 48), args := #[Operand.tmp 30, Operand.tmp 31, Operand.tmp 32], argTypes := #[28, 3, 24] }, 24, _, _, none⟩) (by kernel_rfl) rfl (fun K hT hK => ?_)
    replace hT := hT.1
    rw [if_pos (by rfl)]
    go_simp
    refine (lb_xor m _ q A l c (by omega) (env16_kp hT).1.2.2).mono ?_
    rintro e w' ⟨A6, c6, r6, rfl, hr6, hl6, hB6, hbx⟩
    refine hK.out _ _ (Till.of (env16_keep hT hbx)) ?_
    clear hT hK K
    refine Go_.step (i := 6) (o := ⟨some 34, Op.call { callee := Callee.value (Operand.func 48), args := #[Operand.tmp 28, Operand.tmp 29, Operand.tmp 33], argTypes := #[28, 3, 24] }, 24, _, _, none⟩) (by kernel_rfl) rfl (fun K hT hK => ?_)
    replace hT := hT.1
    rw [if_pos (by rfl)]
    go_simp
    refine (lb_xor k _ p A6 r6 c6 (by have := hl6.out; omega) hB6).mono ?_
    rintro e w' ⟨A14, c14, r14, rfl, hr14, hl14, hB14, hbx⟩
    obtain rfl : r14 = r13 := lk_comm hr5.out hr13.out hr6.out hr14.out
    have HS6 := Lib.hid (env16_with hT hbx ((env16_kp hT).2.1.below hbx) hB14)
    refine hK.out _ _ (Till.of (env16_keep hT hbx)) ?_
    clear hT hK K
    refine Go_.take (i := 7) (oi := ⟨some 14, Op.assign (Operand.tmp 34), 24, _, _, none⟩) (v := ?_) rfl (by kernel_rfl) (by kernel_rfl) (by kernel_rfl) rfl (fun _ _ _ h => h) (Or.inl ⟨by rfl, ?_⟩) ?_
    rotate_left; · intro w0 _; go_simp; try with_reducible rfl
    try simp only [Act.put, List.setIfInBounds_toArray, List.set_cons_zero, List.set_cons_succ]
    refine Go_.done (by kernel_rfl) ?_
    clear HS5
    go_wp2_with fail
    refine wp_region_till 33 (fun w' => w'.cell? ⟨w.heap.size + 1 + 1, 0, none⟩ = some (.int .u32 (W k.k0)) ∧ w'.cell? ⟨w.heap.size + 1 + 1, 1, none⟩ = some (.int .u32 (W k.k1)) ∧ w'.cell? ⟨w.heap.size + 1 + 1, 2, none⟩ = some (.int .u32 (W k.k2)) ∧ w'.cell? ⟨w.heap.size + 1 + 1, 3, none⟩ = some (.int .u32 (W k.k3)) ∧ w'.cell? ⟨w.heap.size + 1 + 1, 4, none⟩ = some (.int .u32 (W k.k4)) ∧ w'.cell? ⟨w.heap.size + 1 + 1, 5, none⟩ = some (.int .u32 (W k.k5)) ∧ w'.cell? ⟨w.heap.size + 1 + 1, 6, none⟩ = some (.int .u32 (W k.k6)) ∧ w'.cell? ⟨w.heap.size + 1 + 1, 7, none⟩ = some (.int .u32 (W k.k7)) ∧ w'.cell? ⟨w.heap.size + 1 + 1 + 1, 0, none⟩ = some (.int .u32 (W m.k0)) ∧ w'.cell? ⟨w.heap.size + 1 + 1 + 1, 1, none⟩ = some (.int .u32 (W m.k1)) ∧ w'.cell? ⟨w.heap.size + 1 + 1 + 1, 2, none⟩ = some (.int .u32 (W m.k2)) ∧ w'.cell? ⟨w.heap.size + 1 + 1 + 1, 3, none⟩ = some (.int .u32 (W m.k3)) ∧ w'.cell? ⟨w.heap.size + 1 + 1 + 1, 4, none⟩ = some (.int .u32 (W m.k4)) ∧ w'.cell? ⟨w.heap.size + 1 + 1 + 1, 5, none⟩ = some (.int .u32 (W m.k5)) ∧ w'.cell? ⟨w.heap.size + 1 + 1 + 1, 6, none⟩ = some (.int .u32 (W m.k6)) ∧ w'.cell? ⟨w.heap.size + 1 + 1 + 1, 7, none⟩ = some (.int .u32 (W m.k7)) ∧ Bts w' A l ∧ Bts w' A13 r14 ∧ Bts w' A14 r14 ∧ Kp w A l w') (fun _ => True) (by kernel_rfl) (env16_keep HS6.out (Below.refl _ _).drew) trivial ?_
    show Go_ _ _ _ _ _ _ _ _ _ _ (World.drew _)
    refine Go_.step (i := 0) (o := ⟨some 35, Op.call { callee := Callee.value (Operand.func 43), args := #[], argTypes := #[] }, 4, _, _, none⟩) (by kernel_rfl) rfl (fun K hT hK => ?_)
    replace hT := hT.1
    rw [if_pos (by rfl)]
    go_simp
    refine (told14 _).mono ?_
    rintro e w' ⟨rfl, hbx⟩
    refine hK.out _ _ (Till.of (env16_keep hT hbx)) ?_
    clear hT hK K
    refine Go_.take (i := 1) (oi := ⟨some 36, Op.move (Operand.tmp 35), 4, _, _, none⟩) (v := ?_) rfl (by kernel_rfl) (by kernel_rfl) (by kernel_rfl) rfl (fun _ _ _ h => h) (Or.inl ⟨by rfl, ?_⟩) ?_
    rotate_left; · intro w0 _; go_simp; try with_reducible rfl
    try simp only [Act.put, List.setIfInBounds_toArray, List.set_cons_zero, List.set_cons_succ]
    refine Go_.take (i := 2) (oi := ⟨some 37, Op.load 28 (Operand.tmp 11), 28, _, _, some (1, true)⟩) (v := ?_) rfl (by kernel_rfl) (by kernel_rfl) (by kernel_rfl) rfl (fun _ _ _ h => h) (Or.inl ⟨by rfl, ?_⟩) ?_
    rotate_left; · intro w0 hS; obtain ⟨c0, c1, c2, c3, c4, c5, c6, c7, c8, c9, c10, c11, c12, c13, c14, c15, cA, cB3, cB4, cK⟩ := hS; go_simp; try with_reducible rfl
    try simp only [Act.put, List.setIfInBounds_toArray, List.set_cons_zero, List.set_cons_succ]
    refine Go_.take (i := 4) (oi := ⟨some 39, Op.load 28 (Operand.tmp 12), 28, _, _, some (1, true)⟩) (v := ?_) rfl (by kernel_rfl) (by kernel_rfl) (by kernel_rfl) rfl (fun _ _ _ h => h) (Or.inl ⟨by rfl, ?_⟩) ?_
    rotate_left; · intro w0 hS; obtain ⟨c0, c1, c2, c3, c4, c5, c6, c7, c8, c9, c10, c11, c12, c13, c14, c15, cA, cB3, cB4, cK⟩ := hS; go_simp; try with_reducible rfl
    try simp only [Act.put, List.setIfInBounds_toArray, List.set_cons_zero, List.set_cons_succ]
    refine Go_.take (i := 7) (oi := ⟨some 42, Op.load 28 (Operand.tmp 11), 28, _, _, some (1, true)⟩) (v := ?_) rfl (by kernel_rfl) (by kernel_rfl) (by kernel_rfl) rfl (fun _ _ _ h => h) (Or.inl ⟨by rfl, ?_⟩) ?_
    rotate_left; · intro w0 hS; obtain ⟨c0, c1, c2, c3, c4, c5, c6, c7, c8, c9, c10, c11, c12, c13, c14, c15, cA, cB3, cB4, cK⟩ := hS; go_simp; try with_reducible rfl
    try simp only [Act.put, List.setIfInBounds_toArray, List.set_cons_zero, List.set_cons_succ]
    refine Go_.take (i := 8) (oi := ⟨some 43, Op.load 28 (Operand.tmp 12), 28, _, _, some (1, true)⟩) (v := ?_) rfl (by kernel_rfl) (by kernel_rfl) (by kernel_rfl) rfl (fun _ _ _ h => h) (Or.inl ⟨by rfl, ?_⟩) ?_
    rotate_left; · intro w0 hS; obtain ⟨c0, c1, c2, c3, c4, c5, c6, c7, c8, c9, c10, c11, c12, c13, c14, c15, cA, cB3, cB4, cK⟩ := hS; go_simp; try with_reducible rfl
    try simp only [Act.put, List.setIfInBounds_toArray, List.set_cons_zero, List.set_cons_succ]
    refine Go_.take (i := 9) (oi := ⟨some 44, Op.binOp BinOp.eql 28 (Operand.tmp 42) (Operand.tmp 43) 28, 4, _, _, some (1, true)⟩) (v := ?_) rfl (by kernel_rfl) (by kernel_rfl) (by kernel_rfl) rfl (fun _ _ _ h => h) (Or.inl ⟨by rfl, ?_⟩) ?_
    rotate_left; · intro w0 _; go_simp; try with_reducible rfl
    try simp only [Act.put, List.setIfInBounds_toArray, List.set_cons_zero, List.set_cons_succ]
    refine Go_.step (i := 3) (o := ⟨some 38, Op.call { callee := Callee.value (Operand.func 41), args := #[Operand.tmp 37], argTypes := #[28] }, 28, _, _, some (1, true)⟩) (by kernel_rfl) rfl (fun K hT hK => ?_)
    replace hT := hT.1
    rw [if_pos (by rfl)]
    go_simp
    refine (lk_mix k M hM _).mono ?_
    rintro e w' ⟨rfl, hbx⟩
    refine hK.out _ _ (Till.of (env16_keep hT hbx)) ?_
    clear hT hK K
    refine Go_.step (i := 5) (o := ⟨some 40, Op.call { callee := Callee.value (Operand.func 41), args := #[Operand.tmp 39], argTypes := #[28] }, 28, _, _, some (1, true)⟩) (by kernel_rfl) rfl (fun K hT hK => ?_)
    replace hT := hT.1
    rw [if_pos (by rfl)]
    go_simp
    refine (lk_mix m N hN _).mono ?_
    rintro e w' ⟨rfl, hbx⟩
    refine hK.out _ _ (Till.of (env16_keep hT hbx)) ?_
    clear hT hK K
    refine Go_.take (i := 6) (oi := ⟨some 41, Op.binOp BinOp.eql 28 (Operand.tmp 38) (Operand.tmp 40) 28, 4, _, _, some (1, true)⟩) (v := ?_) rfl (by kernel_rfl) (by kernel_rfl) (by kernel_rfl) rfl (fun _ _ _ h => h) (Or.inl ⟨by rfl, ?_⟩) ?_
    rotate_left; · intro w0 _; go_simp; try with_reducible rfl
    try simp only [Act.put, List.setIfInBounds_toArray, List.set_cons_zero, List.set_cons_succ]
    refine Go_.take (i := 10) (oi := ⟨some 45, Op.binOp BinOp.eql 4 (Operand.tmp 41) (Operand.tmp 44) 4, 4, _, _, some (1, true)⟩) (v := ?_) rfl (by kernel_rfl) (by kernel_rfl) (by kernel_rfl) rfl (fun _ _ _ h => h) (Or.inl ⟨by rfl, ?_⟩) ?_
    rotate_left; · intro w0 _; go_simp; try with_reducible rfl
    try simp only [Act.put, List.setIfInBounds_toArray, List.set_cons_zero, List.set_cons_succ]
    refine Go_.take (i := 11) (oi := ⟨some 46, Op.pick (Operand.tmp 36) (Operand.tmp 45) (Operand.const (Value.bool false)), 4, _, _, none⟩) (v := ?_) rfl (by kernel_rfl) (by kernel_rfl) (by kernel_rfl) rfl (fun _ _ _ h => h) (Or.inl ⟨by rfl, ?_⟩) ?_
    rotate_left; · intro w0 _; go_simp; try with_reducible rfl
    try simp only [Act.put, List.setIfInBounds_toArray, List.set_cons_zero, List.set_cons_succ]
    refine Go_.take (i := 12) (oi := ⟨some 47, Op.move (Operand.tmp 46), 4, _, _, none⟩) (v := ?_) rfl (by kernel_rfl) (by kernel_rfl) (by kernel_rfl) rfl (fun _ _ _ h => h) (Or.inl ⟨by rfl, ?_⟩) ?_
    rotate_left; · intro w0 _; go_simp; try with_reducible rfl
    try simp only [Act.put, List.setIfInBounds_toArray, List.set_cons_zero, List.set_cons_succ]
    refine Go_.take (i := 13) (oi := ⟨some 48, Op.move (Operand.tmp 13), 24, _, _, some (12, true)⟩) (v := ?_) rfl (by kernel_rfl) (by kernel_rfl) (by kernel_rfl) rfl (fun _ _ _ h => h) (Or.inl ⟨by rfl, ?_⟩) ?_
    rotate_left; · intro w0 _; go_simp; try with_reducible rfl
    try simp only [Act.put, List.setIfInBounds_toArray, List.set_cons_zero, List.set_cons_succ]
    refine Go_.take (i := 14) (oi := ⟨some 49, Op.convert 24 9 (Operand.tmp 48), 9, _, _, some (12, true)⟩) (v := ?_) rfl (by kernel_rfl) (by kernel_rfl) (by kernel_rfl) rfl (fun _ _ _ h => h) (Or.inl ⟨by rfl, ?_⟩) ?_
    rotate_left; · intro w0 hS; obtain ⟨c0, c1, c2, c3, c4, c5, c6, c7, c8, c9, c10, c11, c12, c13, c14, c15, cA, cB3, cB4, cK⟩ := hS; go_simp; try with_reducible rfl
    try simp only [Act.put, List.setIfInBounds_toArray, List.set_cons_zero, List.set_cons_succ]
    refine Go_.take (i := 15) (oi := ⟨some 50, Op.move (Operand.tmp 14), 24, _, _, some (12, true)⟩) (v := ?_) rfl (by kernel_rfl) (by kernel_rfl) (by kernel_rfl) rfl (fun _ _ _ h => h) (Or.inl ⟨by rfl, ?_⟩) ?_
    rotate_left; · intro w0 _; go_simp; try with_reducible rfl
    try simp only [Act.put, List.setIfInBounds_toArray, List.set_cons_zero, List.set_cons_succ]
    refine Go_.take (i := 16) (oi := ⟨some 51, Op.convert 24 9 (Operand.tmp 50), 9, _, _, some (12, true)⟩) (v := ?_) rfl (by kernel_rfl) (by kernel_rfl) (by kernel_rfl) rfl (fun _ _ _ h => h) (Or.inl ⟨by rfl, ?_⟩) ?_
    rotate_left; · intro w0 hS; obtain ⟨c0, c1, c2, c3, c4, c5, c6, c7, c8, c9, c10, c11, c12, c13, c14, c15, cA, cB3, cB4, cK⟩ := hS; go_simp; try with_reducible rfl
    try simp only [Act.put, List.setIfInBounds_toArray, List.set_cons_zero, List.set_cons_succ]
    refine Go_.take (i := 17) (oi := ⟨some 52, Op.binOp BinOp.eql 9 (Operand.tmp 49) (Operand.tmp 51) 9, 4, _, _, some (12, true)⟩) (v := ?_) rfl (by kernel_rfl) (by kernel_rfl) (by kernel_rfl) rfl (fun _ _ _ h => h) (Or.inl ⟨by rfl, ?_⟩) ?_
    rotate_left; · intro w0 _; go_simp; try with_reducible rfl
    try simp only [Act.put, List.setIfInBounds_toArray, List.set_cons_zero, List.set_cons_succ]
    refine Go_.take (i := 18) (oi := ⟨some 53, Op.pick (Operand.tmp 47) (Operand.tmp 52) (Operand.const (Value.bool false)), 4, _, _, none⟩) (v := ?_) rfl (by kernel_rfl) (by kernel_rfl) (by kernel_rfl) rfl (fun _ _ _ h => h) (Or.inl ⟨by rfl, ?_⟩) ?_
    rotate_left; · intro w0 _; go_simp; try with_reducible rfl
    try simp only [Act.put, List.setIfInBounds_toArray, List.set_cons_zero, List.set_cons_succ]
    refine Go_.take (i := 19) (oi := ⟨some 54, Op.move (Operand.tmp 53), 4, _, _, none⟩) (v := ?_) rfl (by kernel_rfl) (by kernel_rfl) (by kernel_rfl) rfl (fun _ _ _ h => h) (Or.inl ⟨by rfl, ?_⟩) ?_
    rotate_left; · intro w0 _; go_simp; try with_reducible rfl
    try simp only [Act.put, List.setIfInBounds_toArray, List.set_cons_zero, List.set_cons_succ]
    refine Go_.take (i := 20) (oi := ⟨some 55, Op.load 28 (Operand.tmp 11), 28, _, _, some (19, true)⟩) (v := ?_) rfl (by kernel_rfl) (by kernel_rfl) (by kernel_rfl) rfl (fun _ _ _ h => h) (Or.inl ⟨by rfl, ?_⟩) ?_
    rotate_left; · intro w0 hS; obtain ⟨c0, c1, c2, c3, c4, c5, c6, c7, c8, c9, c10, c11, c12, c13, c14, c15, cA, cB3, cB4, cK⟩ := hS; go_simp; try with_reducible rfl
    try simp only [Act.put, List.setIfInBounds_toArray, List.set_cons_zero, List.set_cons_succ]
    refine Go_.take (i := 21) (oi := ⟨some 56, Op.move (Operand.tmp 2), 3, _, _, some (19, true)⟩) (v := ?_) rfl (by kernel_rfl) (by kernel_rfl) (by kernel_rfl) rfl (fun _ _ _ h => h) (Or.inl ⟨by rfl, ?_⟩) ?_
    rotate_left; · intro w0 _; go_simp; try with_reducible rfl
    try simp only [Act.put, List.setIfInBounds_toArray, List.set_cons_zero, List.set_cons_succ]
    refine Go_.take (i := 22) (oi := ⟨some 57, Op.load 28 (Operand.tmp 12), 28, _, _, some (19, true)⟩) (v := ?_) rfl (by kernel_rfl) (by kernel_rfl) (by kernel_rfl) rfl (fun _ _ _ h => h) (Or.inl ⟨by rfl, ?_⟩) ?_
    rotate_left; · intro w0 hS; obtain ⟨c0, c1, c2, c3, c4, c5, c6, c7, c8, c9, c10, c11, c12, c13, c14, c15, cA, cB3, cB4, cK⟩ := hS; go_simp; try with_reducible rfl
    try simp only [Act.put, List.setIfInBounds_toArray, List.set_cons_zero, List.set_cons_succ]
    refine Go_.take (i := 23) (oi := ⟨some 58, Op.move (Operand.tmp 3), 3, _, _, some (19, true)⟩) (v := ?_) rfl (by kernel_rfl) (by kernel_rfl) (by kernel_rfl) rfl (fun _ _ _ h => h) (Or.inl ⟨by rfl, ?_⟩) ?_
    rotate_left; · intro w0 _; go_simp; try with_reducible rfl
    try simp only [Act.put, List.setIfInBounds_toArray, List.set_cons_zero, List.set_cons_succ]
    refine Go_.take (i := 24) (oi := ⟨some 59, Op.move (Operand.tmp 13), 24, _, _, some (19, true)⟩) (v := ?_) rfl (by kernel_rfl) (by kernel_rfl) (by kernel_rfl) rfl (fun _ _ _ h => h) (Or.inl ⟨by rfl, ?_⟩) ?_
    rotate_left; · intro w0 _; go_simp; try with_reducible rfl
    try simp only [Act.put, List.setIfInBounds_toArray, List.set_cons_zero, List.set_cons_succ]
    refine Go_.take (i := 28) (oi := ⟨some 63, Op.move (Operand.tmp 4), 24, _, _, some (19, true)⟩) (v := ?_) rfl (by kernel_rfl) (by kernel_rfl) (by kernel_rfl) rfl (fun _ _ _ h => h) (Or.inl ⟨by rfl, ?_⟩) ?_
    rotate_left; · intro w0 _; go_simp; try with_reducible rfl
    try simp only [Act.put, List.setIfInBounds_toArray, List.set_cons_zero, List.set_cons_succ]
    refine Go_.take (i := 29) (oi := ⟨some 64, Op.convert 24 9 (Operand.tmp 63), 9, _, _, some (19, true)⟩) (v := ?_) rfl (by kernel_rfl) (by kernel_rfl) (by kernel_rfl) rfl (fun _ _ _ h => h) (Or.inl ⟨by rfl, ?_⟩) ?_
    rotate_left; · intro w0 hS; obtain ⟨c0, c1, c2, c3, c4, c5, c6, c7, c8, c9, c10, c11, c12, c13, c14, c15, cA, cB3, cB4, cK⟩ := hS; go_simp; try with_reducible rfl
    try simp only [Act.put, List.setIfInBounds_toArray, List.set_cons_zero, List.set_cons_succ]
    refine Go_.step (i := 25) (o := ⟨some 60, Op.call { callee := Callee.value (Operand.func 48), args := #[Operand.tmp 57, Operand.tmp 58, Operand.tmp 59], argTypes := #[28, 3, 24] }, 24, _, _, some (19, true)⟩) (by kernel_rfl) rfl (fun K hT hK => ?_)
    replace hT := hT.1
    rw [if_pos (by rfl)]
    go_simp
    refine (lb_xor m _ q A13 r14 c13 (by have h5 := hl5.out; have h13 := hl13.out; omega) (env16_kp hT).2.1).mono ?_
    rintro e w' ⟨A25, c25, r25, rfl, hr25, hl25, hB25, hbx⟩
    refine hK.out _ _ (Till.of (env16_keep hT hbx)) ?_
    clear hT hK K
    refine Go_.step (i := 26) (o := ⟨some 61, Op.call { callee := Callee.value (Operand.func 48), args := #[Operand.tmp 55, Operand.tmp 56, Operand.tmp 60], argTypes := #[28, 3, 24] }, 24, _, _, some (19, true)⟩) (by kernel_rfl) rfl (fun K hT hK => ?_)
    replace hT := hT.1
    rw [if_pos (by rfl)]
    go_simp
    refine (lb_xor k _ p A25 r25 c25 (by have h5 := hl5.out; have h13 := hl13.out; have h25 := hl25.out; omega) hB25).mono ?_
    rintro e w' ⟨A26, c26, r26, rfl, hr26, hl26, hB26, hbx⟩
    have hfin := (env16_kp (env16_keep hT hbx)).1.below
    refine hK.out _ _ (Till.of (env16_keep hT hbx)) ?_
    clear hT hK K
    refine Go_.raise (C := fun w0 => Bts w0 A26 r26) hB26 ?_
    refine Go_.take (i := 27) (oi := ⟨some 62, Op.convert 24 9 (Operand.tmp 61), 9, _, _, some (19, true)⟩) (v := ?_) rfl (by kernel_rfl) (by kernel_rfl) (by kernel_rfl) rfl (fun _ _ _ h => h) (Or.inl ⟨by rfl, ?_⟩) ?_
    rotate_left; · intro w0 hS; obtain ⟨⟨c0, c1, c2, c3, c4, c5, c6, c7, c8, c9, c10, c11, c12, c13, c14, c15, cA, cB3, cB4, cK⟩, cB26⟩ := hS; go_simp; try with_reducible rfl
    try simp only [Act.put, List.setIfInBounds_toArray, List.set_cons_zero, List.set_cons_succ]
    refine Go_.take (i := 30) (oi := ⟨some 65, Op.binOp BinOp.eql 9 (Operand.tmp 62) (Operand.tmp 64) 9, 4, _, _, some (19, true)⟩) (v := ?_) rfl (by kernel_rfl) (by kernel_rfl) (by kernel_rfl) rfl (fun _ _ _ h => h) (Or.inl ⟨by rfl, ?_⟩) ?_
    rotate_left; · intro w0 _; go_simp; try with_reducible rfl
    try simp only [Act.put, List.setIfInBounds_toArray, List.set_cons_zero, List.set_cons_succ]
    refine Go_.take (i := 31) (oi := ⟨some 66, Op.pick (Operand.tmp 54) (Operand.tmp 65) (Operand.const (Value.bool false)), 4, _, _, none⟩) (v := ?_) rfl (by kernel_rfl) (by kernel_rfl) (by kernel_rfl) rfl (fun _ _ _ h => h) (Or.inl ⟨by rfl, ?_⟩) ?_
    rotate_left; · intro w0 _; go_simp; try with_reducible rfl
    try simp only [Act.put, List.setIfInBounds_toArray, List.set_cons_zero, List.set_cons_succ]
    refine Go_.take (i := 32) (oi := ⟨some 10, Op.assign (Operand.tmp 66), 4, _, _, none⟩) (v := ?_) rfl (by kernel_rfl) (by kernel_rfl) (by kernel_rfl) rfl (fun _ _ _ h => h) (Or.inl ⟨by rfl, ?_⟩) ?_
    rotate_left; · intro w0 _; go_simp; try with_reducible rfl
    try simp only [Act.put, List.setIfInBounds_toArray, List.set_cons_zero, List.set_cons_succ]
    refine Go_.done (by kernel_rfl) ?_
    go_wp2
    go_ret
    refine ⟨ret_bool3 ?_, hfin⟩
    rw [lk_fin hr5.out hr13.out hr25.out hr26.out]
    simp
  · refine wp_region_till 8 (fun w' => w'.cell? ⟨w.heap.size + 1 + 1 + 1, 0, none⟩ = some (.int .u32 (W k.k0)) ∧ w'.cell? ⟨w.heap.size + 1 + 1 + 1, 1, none⟩ = some (.int .u32 (W k.k1)) ∧ w'.cell? ⟨w.heap.size + 1 + 1 + 1, 2, none⟩ = some (.int .u32 (W k.k2)) ∧ w'.cell? ⟨w.heap.size + 1 + 1 + 1, 3, none⟩ = some (.int .u32 (W k.k3)) ∧ w'.cell? ⟨w.heap.size + 1 + 1 + 1, 4, none⟩ = some (.int .u32 (W k.k4)) ∧ w'.cell? ⟨w.heap.size + 1 + 1 + 1, 5, none⟩ = some (.int .u32 (W k.k5)) ∧ w'.cell? ⟨w.heap.size + 1 + 1 + 1, 6, none⟩ = some (.int .u32 (W k.k6)) ∧ w'.cell? ⟨w.heap.size + 1 + 1 + 1, 7, none⟩ = some (.int .u32 (W k.k7)) ∧ w'.cell? ⟨w.heap.size + 1 + 1, 0, none⟩ = some (.int .u32 (W m.k0)) ∧ w'.cell? ⟨w.heap.size + 1 + 1, 1, none⟩ = some (.int .u32 (W m.k1)) ∧ w'.cell? ⟨w.heap.size + 1 + 1, 2, none⟩ = some (.int .u32 (W m.k2)) ∧ w'.cell? ⟨w.heap.size + 1 + 1, 3, none⟩ = some (.int .u32 (W m.k3)) ∧ w'.cell? ⟨w.heap.size + 1 + 1, 4, none⟩ = some (.int .u32 (W m.k4)) ∧ w'.cell? ⟨w.heap.size + 1 + 1, 5, none⟩ = some (.int .u32 (W m.k5)) ∧ w'.cell? ⟨w.heap.size + 1 + 1, 6, none⟩ = some (.int .u32 (W m.k6)) ∧ w'.cell? ⟨w.heap.size + 1 + 1, 7, none⟩ = some (.int .u32 (W m.k7)) ∧ Bts w' A l ∧ Bts w' none [] ∧ Bts w' none [] ∧ Kp w A l w') (fun _ => True) (by kernel_rfl) (HSb.out) trivial ?_
    show Go_ _ _ _ _ _ _ _ _ _ _ (World.drew _)
    refine Go_.take (i := 0) (oi := ⟨some 21, Op.load 28 (Operand.tmp 12), 28, _, _, none⟩) (v := ?_) rfl (by kernel_rfl) (by kernel_rfl) (by kernel_rfl) rfl (fun _ _ _ h => h) (Or.inl ⟨by rfl, ?_⟩) ?_
    rotate_left; · intro w0 hS; obtain ⟨c0, c1, c2, c3, c4, c5, c6, c7, c8, c9, c10, c11, c12, c13, c14, c15, cA, cB3, cB4, cK⟩ := hS; go_simp; try with_reducible rfl
    try simp only [Act.put, List.setIfInBounds_toArray, List.set_cons_zero, List.set_cons_succ]
    refine Go_.take (i := 1) (oi := ⟨some 22, Op.move (Operand.tmp 3), 3, _, _, none⟩) (v := ?_) rfl (by kernel_rfl) (by kernel_rfl) (by kernel_rfl) rfl (fun _ _ _ h => h) (Or.inl ⟨by rfl, ?_⟩) ?_
    rotate_left; · intro w0 _; go_simp; try with_reducible rfl
    try simp only [Act.put, List.setIfInBounds_toArray, List.set_cons_zero, List.set_cons_succ]
    refine Go_.take (i := 2) (oi := ⟨some 23, Op.load 28 (Operand.tmp 11), 28, _, _, none⟩) (v := ?_) rfl (by kernel_rfl) (by kernel_rfl) (by kernel_rfl) rfl (fun _ _ _ h => h) (Or.inl ⟨by rfl, ?_⟩) ?_
    rotate_left; · intro w0 hS; obtain ⟨c0, c1, c2, c3, c4, c5, c6, c7, c8, c9, c10, c11, c12, c13, c14, c15, cA, cB3, cB4, cK⟩ := hS; go_simp; try with_reducible rfl
    try simp only [Act.put, List.setIfInBounds_toArray, List.set_cons_zero, List.set_cons_succ]
    refine Go_.take (i := 3) (oi := ⟨some 24, Op.move (Operand.tmp 2), 3, _, _, none⟩) (v := ?_) rfl (by kernel_rfl) (by kernel_rfl) (by kernel_rfl) rfl (fun _ _ _ h => h) (Or.inl ⟨by rfl, ?_⟩) ?_
    rotate_left; · intro w0 _; go_simp; try with_reducible rfl
    try simp only [Act.put, List.setIfInBounds_toArray, List.set_cons_zero, List.set_cons_succ]
    refine Go_.take (i := 4) (oi := ⟨some 25, Op.move (Operand.tmp 4), 24, _, _, none⟩) (v := ?_) rfl (by kernel_rfl) (by kernel_rfl) (by kernel_rfl) rfl (fun _ _ _ h => h) (Or.inl ⟨by rfl, ?_⟩) ?_
    rotate_left; · intro w0 _; go_simp; try with_reducible rfl
    try simp only [Act.put, List.setIfInBounds_toArray, List.set_cons_zero, List.set_cons_succ]
    refine Go_.step (i := 5) (o := ⟨some 26, Op.call { callee := Callee.value (Operand.func 48), args := #[Operand.tmp 23, Operand.tmp 24, Operand.tmp 25], argTypes := #[28, 3, 24] }, 24, _, _, none⟩) (by kernel_rfl) rfl (fun K hT hK => ?_)
    replace hT := hT.1
    rw [if_pos (by rfl)]
    go_simp
    refine (lb_xor k _ p A l c (by omega) (env16_kp hT).1.2.2).mono ?_
    rintro e w' ⟨A5, c5, r5, rfl, hr5, hl5, hB5, hbx⟩
    refine hK.out _ _ (Till.of (env16_keep hT hbx)) ?_
    clear hT hK K
    refine Go_.step (i := 6) (o := ⟨some 27, Op.call { callee := Callee.value (Operand.func 48), args := #[Operand.tmp 21, Operand.tmp 22, Operand.tmp 26], argTypes := #[28, 3, 24] }, 24, _, _, none⟩) (by kernel_rfl) rfl (fun K hT hK => ?_)
    replace hT := hT.1
    rw [if_pos (by rfl)]
    go_simp
    refine (lb_xor m _ q A5 r5 c5 (by have := hl5.out; omega) hB5).mono ?_
    rintro e w' ⟨A13, c13, r13, rfl, hr13, hl13, hB13, hbx⟩
    have HS5 := Lib.hid (env16_with (A6 := none) (l6 := []) hT hbx hB13 (Bts.nil _ _))
    refine hK.out _ _ (Till.of (env16_keep hT hbx)) ?_
    clear hT hK K
    refine Go_.take (i := 7) (oi := ⟨some 13, Op.assign (Operand.tmp 27), 24, _, _, none⟩) (v := ?_) rfl (by kernel_rfl) (by kernel_rfl) (by kernel_rfl) rfl (fun _ _ _ h => h) (Or.inl ⟨by rfl, ?_⟩) ?_
    rotate_left; · intro w0 _; go_simp; try with_reducible rfl
    try simp only [Act.put, List.setIfInBounds_toArray, List.set_cons_zero, List.set_cons_succ]
    refine Go_.done (by kernel_rfl) ?_
    clear HSb
    go_wp2_with fail
    refine wp_region_till 8 (fun w' => w'.cell? ⟨w.heap.size + 1 + 1 + 1, 0, none⟩ = some (.int .u32 (W k.k0)) ∧ w'.cell? ⟨w.heap.size + 1 + 1 + 1, 1, none⟩ = some (.int .u32 (W k.k1)) ∧ w'.cell? ⟨w.heap.size + 1 + 1 + 1, 2, none⟩ = some (.int .u32 (W k.k2)) ∧ w'.cell? ⟨w.heap.size + 1 + 1 + 1, 3, none⟩ = some (.int .u32 (W k.k3)) ∧ w'.cell? ⟨w.heap.size + 1 + 1 + 1, 4, none⟩ = some (.int .u32 (W k.k4)) ∧ w'.cell? ⟨w.heap.size + 1 + 1 + 1, 5, none⟩ = some (.int .u32 (W k.k5)) ∧ w'.cell? ⟨w.heap.size + 1 + 1 + 1, 6, none⟩ = some (.int .u32 (W k.k6)) ∧ w'.cell? ⟨w.heap.size + 1 + 1 + 1, 7, none⟩ = some (.int .u32 (W k.k7)) ∧ w'.cell? ⟨w.heap.size + 1 + 1, 0, none⟩ = some (.int .u32 (W m.k0)) ∧ w'.cell? ⟨w.heap.size + 1 + 1, 1, none⟩ = some (.int .u32 (W m.k1)) ∧ w'.cell? ⟨w.heap.size + 1 + 1, 2, none⟩ = some (.int .u32 (W m.k2)) ∧ w'.cell? ⟨w.heap.size + 1 + 1, 3, none⟩ = some (.int .u32 (W m.k3)) ∧ w'.cell? ⟨w.heap.size + 1 + 1, 4, none⟩ = some (.int .u32 (W m.k4)) ∧ w'.cell? ⟨w.heap.size + 1 + 1, 5, none⟩ = some (.int .u32 (W m.k5)) ∧ w'.cell? ⟨w.heap.size + 1 + 1, 6, none⟩ = some (.int .u32 (W m.k6)) ∧ w'.cell? ⟨w.heap.size + 1 + 1, 7, none⟩ = some (.int .u32 (W m.k7)) ∧ Bts w' A l ∧ Bts w' A13 r13 ∧ Bts w' none [] ∧ Kp w A l w') (fun _ => True) (by kernel_rfl) (env16_keep HS5.out (Below.refl _ _).drew) trivial ?_
    show Go_ _ _ _ _ _ _ _ _ _ _ (World.drew _)
    refine Go_.take (i := 0) (oi := ⟨some 28, Op.load 28 (Operand.tmp 11), 28, _, _, none⟩) (v := ?_) rfl (by kernel_rfl) (by kernel_rfl) (by kernel_rfl) rfl (fun _ _ _ h => h) (Or.inl ⟨by rfl, ?_⟩) ?_
    rotate_left; · intro w0 hS; obtain ⟨c0, c1, c2, c3, c4, c5, c6, c7, c8, c9, c10, c11, c12, c13, c14, c15, cA, cB3, cB4, cK⟩ := hS; go_simp; try with_reducible rfl
    try simp only [Act.put, List.setIfInBounds_toArray, List.set_cons_zero, List.set_cons_succ]
    refine Go_.take (i := 1) (oi := ⟨some 29, Op.move (Operand.tmp 2), 3, _, _, none⟩) (v := ?_) rfl (by kernel_rfl) (by kernel_rfl) (by kernel_rfl) rfl (fun _ _ _ h => h) (Or.inl ⟨by rfl, ?_⟩) ?_
    rotate_left; · intro w0 _; go_simp; try with_reducible rfl
    try simp only [Act.put, List.setIfInBounds_toArray, List.set_cons_zero, List.set_cons_succ]
    refine Go_.take (i := 2) (oi := ⟨some 30, Op.load 28 (Operand.tmp 12), 28, _, _, none⟩) (v := ?_) rfl (by kernel_rfl) (by kernel_rfl) (by kernel_rfl) rfl (fun _ _ _ h => h) (Or.inl ⟨by rfl, ?_⟩) ?_
    rotate_left; · intro w0 hS; obtain ⟨c0, c1, c2, c3, c4, c5, c6, c7, c8, c9, c10, c11, c12, c13, c14, c15, cA, cB3, cB4, cK⟩ := hS; go_simp; try with_reducible rfl
    try simp only [Act.put, List.setIfInBounds_toArray, List.set_cons_zero, List.set_cons_succ]
    refine Go_.take (i := 3) (oi := ⟨some 31, Op.move (Operand.tmp 3), 3, _, _, none⟩) (v := ?_) rfl (by kernel_rfl) (by kernel_rfl) (by kernel_rfl) rfl (fun _ _ _ h => h) (Or.inl ⟨by rfl, ?_⟩) ?_
    rotate_left; · intro w0 _; go_simp; try with_reducible rfl
    try simp only [Act.put, List.setIfInBounds_toArray, List.set_cons_zero, List.set_cons_succ]
    refine Go_.take (i := 4) (oi := ⟨some 32, Op.move (Operand.tmp 4), 24, _, _, none⟩) (v := ?_) rfl (by kernel_rfl) (by kernel_rfl) (by kernel_rfl) rfl (fun _ _ _ h => h) (Or.inl ⟨by rfl, ?_⟩) ?_
    rotate_left; · intro w0 _; go_simp; try with_reducible rfl
    try simp only [Act.put, List.setIfInBounds_toArray, List.set_cons_zero, List.set_cons_succ]
    refine Go_.step (i := 5) (o := ⟨some 33, Op.call { callee := Callee.value (Operand.func 48), args := #[Operand.tmp 30, Operand.tmp 31, Operand.tmp 32], argTypes := #[28, 3, 24] }, 24, _, _, none⟩) (by kernel_rfl) rfl (fun K hT hK => ?_)
    replace hT := hT.1
    rw [if_pos (by rfl)]
    go_simp
    refine (lb_xor m _ q A l c (by omega) (env16_kp hT).1.2.2).mono ?_
    rintro e w' ⟨A6, c6, r6, rfl, hr6, hl6, hB6, hbx⟩
    refine hK.out _ _ (Till.of (env16_keep hT hbx)) ?_
    clear hT hK K
    refine Go_.step (i := 6) (o := ⟨some 34, Op.call { callee := Callee.value (Operand.func 48), args := #[Operand.tmp 28, Operand.tmp 29, Operand.tmp 33], argTypes := #[28, 3, 24] }, 24, _, _, none⟩) (by kernel_rfl) rfl (fun K hT hK => ?_)
    replace hT := hT.1
    rw [if_pos (by rfl)]
    go_simp
    refine (lb_xor k _ p A6 r6 c6 (by have := hl6.out; omega) hB6).mono ?_
    rintro e w' ⟨A14, c14, r14, rfl, hr14, hl14, hB14, hbx⟩
    obtain rfl : r14 = r13 := lk_comm hr5.out hr13.out hr6.out hr14.out
    have HS6 := Lib.hid (env16_with hT hbx ((env16_kp hT).2.1.below hbx) hB14)
    refine hK.out _ _ (Till.of (env16_keep hT hbx)) ?_
    clear hT hK K
    refine Go_.take (i := 7) (oi := ⟨some 14, Op.assign (Operand.tmp 34), 24, _, _, none⟩) (v := ?_) rfl (by kernel_rfl) (by kernel_rfl) (by kernel_rfl) rfl (fun _ _ _ h => h) (Or.inl ⟨by rfl, ?_⟩) ?_
    rotate_left; · intro w0 _; go_simp; try with_reducible rfl
    try simp only [Act.put, List.setIfInBounds_toArray, List.set_cons_zero, List.set_cons_succ]
    refine Go_.done (by kernel_rfl) ?_
    clear HS5
    go_wp2_with fail
    refine wp_region_till 33 (fun w' => w'.cell? ⟨w.heap.size + 1 + 1 + 1, 0, none⟩ = some (.int .u32 (W k.k0)) ∧ w'.cell? ⟨w.heap.size + 1 + 1 + 1, 1, none⟩ = some (.int .u32 (W k.k1)) ∧ w'.cell? ⟨w.heap.size + 1 + 1 + 1, 2, none⟩ = some (.int .u32 (W k.k2)) ∧ w'.cell? ⟨w.heap.size + 1 + 1 + 1, 3, none⟩ = some (.int .u32 (W k.k3)) ∧ w'.cell? ⟨w.heap.size + 1 + 1 + 1, 4, none⟩ = some (.int .u32 (W k.k4)) ∧ w'.cell? ⟨w.heap.size + 1 + 1 + 1, 5, none⟩ = some (.int .u32 (W k.k5)) ∧ w'.cell? ⟨w.heap.size + 1 + 1 + 1, 6, none⟩ = some (.int .u32 (W k.k6)) ∧ w'.cell? ⟨w.heap.size + 1 + 1 + 1, 7, none⟩ = some (.int .u32 (W k.k7)) ∧ w'.cell? ⟨w.heap.size + 1 + 1, 0, none⟩ = some (.int .u32 (W m.k0)) ∧ w'.cell? ⟨w.heap.size + 1 + 1, 1, none⟩ = some (.int .u32 (W m.k1)) ∧ w'.cell? ⟨w.heap.size + 1 + 1, 2, none⟩ = some (.int .u32 (W m.k2)) ∧ w'.cell? ⟨w.heap.size + 1 + 1, 3, none⟩ = some (.int .u32 (W m.k3)) ∧ w'.cell? ⟨w.heap.size + 1 + 1, 4, none⟩ = some (.int .u32 (W m.k4)) ∧ w'.cell? ⟨w.heap.size + 1 + 1, 5, none⟩ = some (.int .u32 (W m.k5)) ∧ w'.cell? ⟨w.heap.size + 1 + 1, 6, none⟩ = some (.int .u32 (W m.k6)) ∧ w'.cell? ⟨w.heap.size + 1 + 1, 7, none⟩ = some (.int .u32 (W m.k7)) ∧ Bts w' A l ∧ Bts w' A13 r14 ∧ Bts w' A14 r14 ∧ Kp w A l w') (fun _ => True) (by kernel_rfl) (env16_keep HS6.out (Below.refl _ _).drew) trivial ?_
    show Go_ _ _ _ _ _ _ _ _ _ _ (World.drew _)
    refine Go_.step (i := 0) (o := ⟨some 35, Op.call { callee := Callee.value (Operand.func 43), args := #[], argTypes := #[] }, 4, _, _, none⟩) (by kernel_rfl) rfl (fun K hT hK => ?_)
    replace hT := hT.1
    rw [if_pos (by rfl)]
    go_simp
    refine (told14 _).mono ?_
    rintro e w' ⟨rfl, hbx⟩
    refine hK.out _ _ (Till.of (env16_keep hT hbx)) ?_
    clear hT hK K
    refine Go_.take (i := 1) (oi := ⟨some 36, Op.move (Operand.tmp 35), 4, _, _, none⟩) (v := ?_) rfl (by kernel_rfl) (by kernel_rfl) (by kernel_rfl) rfl (fun _ _ _ h => h) (Or.inl ⟨by rfl, ?_⟩) ?_
    rotate_left; · intro w0 _; go_simp; try with_reducible rfl
    try simp only [Act.put, List.setIfInBounds_toArray, List.set_cons_zero, List.set_cons_succ]
    refine Go_.take (i := 2) (oi := ⟨some 37, Op.load 28 (Operand.tmp 11), 28, _, _, some (1, true)⟩) (v := ?_) rfl (by kernel_rfl) (by kernel_rfl) (by kernel_rfl) rfl (fun _ _ _ h => h) (Or.inl ⟨by rfl, ?_⟩) ?_
    rotate_left; · intro w0 hS; obtain ⟨c0, c1, c2, c3, c4, c5, c6, c7, c8, c9, c10, c11, c12, c13, c14, c15, cA, cB3, cB4, cK⟩ := hS; go_simp; try with_reducible rfl
    try simp only [Act.put, List.setIfInBounds_toArray, List.set_cons_zero, List.set_cons_succ]
    refine Go_.take (i := 4) (oi := ⟨some 39, Op.load 28 (Operand.tmp 12), 28, _, _, some (1, true)⟩) (v := ?_) rfl (by kernel_rfl) (by kernel_rfl) (by kernel_rfl) rfl (fun _ _ _ h => h) (Or.inl ⟨by rfl, ?_⟩) ?_
    rotate_left; · intro w0 hS; obtain ⟨c0, c1, c2, c3, c4, c5, c6, c7, c8, c9, c10, c11, c12, c13, c14, c15, cA, cB3, cB4, cK⟩ := hS; go_simp; try with_reducible rfl
    try simp only [Act.put, List.setIfInBounds_toArray, List.set_cons_zero, List.set_cons_succ]
    refine Go_.take (i := 7) (oi := ⟨some 42, Op.load 28 (Operand.tmp 11), 28, _, _, some (1, true)⟩) (v := ?_) rfl (by kernel_rfl) (by kernel_rfl) (by kernel_rfl) rfl (fun _ _ _ h => h) (Or.inl ⟨by rfl, ?_⟩) ?_
    rotate_left; · intro w0 hS; obtain ⟨c0, c1, c2, c3, c4, c5, c6, c7, c8, c9, c10, c11, c12, c13, c14, c15, cA, cB3, cB4, cK⟩ := hS; go_simp; try with_reducible rfl
    try simp only [Act.put, List.setIfInBounds_toArray, List.set_cons_zero, List.set_cons_succ]
    refine Go_.take (i := 8) (oi := ⟨some 43, Op.load 28 (Operand.tmp 12), 28, _, _, some (1, true)⟩) (v := ?_) rfl (by kernel_rfl) (by kernel_rfl) (by kernel_rfl) rfl (fun _ _ _ h => h) (Or.inl ⟨by rfl, ?_⟩) ?_
    rotate_left; · intro w0 hS; obtain ⟨c0, c1, c2, c3, c4, c5, c6, c7, c8, c9, c10, c11, c12, c13, c14, c15, cA, cB3, cB4, cK⟩ := hS; go_simp; try with_reducible rfl
    try simp only [Act.put, List.setIfInBounds_toArray, List.set_cons_zero, List.set_cons_succ]
    refine Go_.take (i := 9) (oi := ⟨some 44, Op.binOp BinOp.eql 28 (Operand.tmp 42) (Operand.tmp 43) 28, 4, _, _, some (1, true)⟩) (v := ?_) rfl (by kernel_rfl) (by kernel_rfl) (by kernel_rfl) rfl (fun _ _ _ h => h) (Or.inl ⟨by rfl, ?_⟩) ?_
    rotate_left; · intro w0 _; go_simp; try with_reducible rfl
    try simp only [Act.put, List.setIfInBounds_toArray, List.set_cons_zero, List.set_cons_succ]
    refine Go_.step (i := 3) (o := ⟨some 38, Op.call { callee := Callee.value (Operand.func 41), args := #[Operand.tmp 37], argTypes := #[28] }, 28, _, _, some (1, true)⟩) (by kernel_rfl) rfl (fun K hT hK => ?_)
    replace hT := hT.1
    rw [if_pos (by rfl)]
    go_simp
    refine (lk_mix k M hM _).mono ?_
    rintro e w' ⟨rfl, hbx⟩
    refine hK.out _ _ (Till.of (env16_keep hT hbx)) ?_
    clear hT hK K
    refine Go_.step (i := 5) (o := ⟨some 40, Op.call { callee := Callee.value (Operand.func 41), args := #[Operand.tmp 39], argTypes := #[28] }, 28, _, _, some (1, true)⟩) (by kernel_rfl) rfl (fun K hT hK => ?_)
    replace hT := hT.1
    rw [if_pos (by rfl)]
    go_simp
    refine (lk_mix m N hN _).mono ?_
    rintro e w' ⟨rfl, hbx⟩
    refine hK.out _ _ (Till.of (env16_keep hT hbx)) ?_
    clear hT hK K
    refine Go_.take (i := 6) (oi := ⟨some 41, Op.binOp BinOp.eql 28 (Operand.tmp 38) (Operand.tmp 40) 28, 4, _, _, some (1, true)⟩) (v := ?_) rfl (by kernel_rfl) (by kernel_rfl) (by kernel_rfl) rfl (fun _ _ _ h => h) (Or.inl ⟨by rfl, ?_⟩) ?_
    rotate_left; · intro w0 _; go_simp; try with_reducible rfl
    try simp only [Act.put, List.setIfInBounds_toArray, List.set_cons_zero, List.set_cons_succ]
    refine Go_.take (i := 10) (oi := ⟨some 45, Op.binOp BinOp.eql 4 (Operand.tmp 41) (Operand.tmp 44) 4, 4, _, _, some (1, true)⟩) (v := ?_) rfl (by kernel_rfl) (by kernel_rfl) (by kernel_rfl) rfl (fun _ _ _ h => h) (Or.inl ⟨by rfl, ?_⟩) ?_
    rotate_left; · intro w0 _; go_simp; try with_reducible rfl
    try simp only [Act.put, List.setIfInBounds_toArray, List.set_cons_zero, List.set_cons_succ]
    refine Go_.take (i := 11) (oi := ⟨some 46, Op.pick (Operand.tmp 36) (Operand.tmp 45) (Operand.const (Value.bool false)), 4, _, _, none⟩) (v := ?_) rfl (by kernel_rfl) (by kernel_rfl) (by kernel_rfl) rfl (fun _ _ _ h => h) (Or.inl ⟨by rfl, ?_⟩) ?_
    rotate_left; · intro w0 _; go_simp; try with_reducible rfl
    try simp only [Act.put, List.setIfInBounds_toArray, List.set_cons_zero, List.set_cons_succ]
    refine Go_.take (i := 12) (oi := ⟨some 47, Op.move (Operand.tmp 46), 4, _, _, none⟩) (v := ?_) rfl (by kernel_rfl) (by kernel_rfl) (by kernel_rfl) rfl (fun _ _ _ h => h) (Or.inl ⟨by rfl, ?_⟩) ?_
    rotate_left; · intro w0 _; go_simp; try with_reducible rfl
    try simp only [Act.put, List.setIfInBounds_toArray, List.set_cons_zero, List.set_cons_succ]
    refine Go_.take (i := 13) (oi := ⟨some 48, Op.move (Operand.tmp 13), 24, _, _, some (12, true)⟩) (v := ?_) rfl (by kernel_rfl) (by kernel_rfl) (by kernel_rfl) rfl (fun _ _ _ h => h) (Or.inl ⟨by rfl, ?_⟩) ?_
    rotate_left; · intro w0 _; go_simp; try with_reducible rfl
    try simp only [Act.put, List.setIfInBounds_toArray, List.set_cons_zero, List.set_cons_succ]
    refine Go_.take (i := 14) (oi := ⟨some 49, Op.convert 24 9 (Operand.tmp 48), 9, _, _, some (12, true)⟩) (v := ?_) rfl (by kernel_rfl) (by kernel_rfl) (by kernel_rfl) rfl (fun _ _ _ h => h) (Or.inl ⟨by rfl, ?_⟩) ?_
    rotate_left; · intro w0 hS; obtain ⟨c0, c1, c2, c3, c4, c5, c6, c7, c8, c9, c10, c11, c12, c13, c14, c15, cA, cB3, cB4, cK⟩ := hS; go_simp; try with_reducible rfl
    try simp only [Act.put, List.setIfInBounds_toArray, List.set_cons_zero, List.set_cons_succ]
    refine Go_.take (i := 15) (oi := ⟨some 50, Op.move (Operand.tmp 14), 24, _, _, some (12, true)⟩) (v := ?_) rfl (by kernel_rfl) (by kernel_rfl) (by kernel_rfl) rfl (fun _ _ _ h => h) (Or.inl ⟨by rfl, ?_⟩) ?_
    rotate_left; · intro w0 _; go_simp; try with_reducible rfl
    try simp only [Act.put, List.setIfInBounds_toArray, List.set_cons_zero, List.set_cons_succ]
    refine Go_.take (i := 16) (oi := ⟨some 51, Op.convert 24 9 (Operand.tmp 50), 9, _, _, some (12, true)⟩) (v := ?_) rfl (by kernel_rfl) (by kernel_rfl) (by kernel_rfl) rfl (fun _ _ _ h => h) (Or.inl ⟨by rfl, ?_⟩) ?_
    rotate_left; · intro w0 hS; obtain ⟨c0, c1, c2, c3, c4, c5, c6, c7, c8, c9, c10, c11, c12, c13, c14, c15, cA, cB3, cB4, cK⟩ := hS; go_simp; try with_reducible rfl
    try simp only [Act.put, List.setIfInBounds_toArray, List.set_cons_zero, List.set_cons_succ]
    refine Go_.take (i := 17) (oi := ⟨some 52, Op.binOp BinOp.eql 9 (Operand.tmp 49) (Operand.tmp 51) 9, 4, _, _, some (12, true)⟩) (v := ?_) rfl (by kernel_rfl) (by kernel_rfl) (by kernel_rfl) rfl (fun _ _ _ h => h) (Or.inl ⟨by rfl, ?_⟩) ?_
    rotate_left; · intro w0 _; go_simp; try with_reducible rfl
    try simp only [Act.put, List.setIfInBounds_toArray, List.set_cons_zero, List.set_cons_succ]
    refine Go_.take (i := 18) (oi := ⟨some 53, Op.pick (Operand.tmp 47) (Operand.tmp 52) (Operand.const (Value.bool false)), 4, _, _, none⟩) (v := ?_) rfl (by kernel_rfl) (by kernel_rfl) (by kernel_rfl) rfl (fun _ _ _ h => h) (Or.inl ⟨by rfl, ?_⟩) ?_
    rotate_left; · intro w0 _; go_simp; try with_reducible rfl
    try simp only [Act.put, List.setIfInBounds_toArray, List.set_cons_zero, List.set_cons_succ]
    refine Go_.take (i := 19) (oi := ⟨some 54, Op.move (Operand.tmp 53), 4, _, _, none⟩) (v := ?_) rfl (by kernel_rfl) (by kernel_rfl) (by kernel_rfl) rfl (fun _ _ _ h => h) (Or.inl ⟨by rfl, ?_⟩) ?_
    rotate_left; · intro w0 _; go_simp; try with_reducible rfl
    try simp only [Act.put, List.setIfInBounds_toArray, List.set_cons_zero, List.set_cons_succ]
    refine Go_.take (i := 20) (oi := ⟨some 55, Op.load 28 (Operand.tmp 11), 28, _, _, some (19, true)⟩) (v := ?_) rfl (by kernel_rfl) (by kernel_rfl) (by kernel_rfl) rfl (fun _ _ _ h => h) (Or.inl ⟨by rfl, ?_⟩) ?_
    rotate_left; · intro w0 hS; obtain ⟨c0, c1, c2, c3, c4, c5, c6, c7, c8, c9, c10, c11, c12, c13, c14, c15, cA, cB3, cB4, cK⟩ := hS; go_simp; try with_reducible rfl
    try simp only [Act.put, List.setIfInBounds_toArray, List.set_cons_zero, List.set_cons_succ]
    refine Go_.take (i := 21) (oi := ⟨some 56, Op.move (Operand.tmp 2), 3, _, _, some (19, true)⟩) (v := ?_) rfl (by kernel_rfl) (by kernel_rfl) (by kernel_rfl) rfl (fun _ _ _ h => h) (Or.inl ⟨by rfl, ?_⟩) ?_
    rotate_left; · intro w0 _; go_simp; try with_reducible rfl
    try simp only [Act.put, List.setIfInBounds_toArray, List.set_cons_zero, List.set_cons_succ]
    refine Go_.take (i := 22) (oi := ⟨some 57, Op.load 28 (Operand.tmp 12), 28, _, _, some (19, true)⟩) (v := ?_) rfl (by kernel_rfl) (by kernel_rfl) (by kernel_rfl) rfl (fun _ _ _ h => h) (Or.inl ⟨by rfl, ?_⟩) ?_
    rotate_left; · intro w0 hS; obtain ⟨c0, c1, c2, c3, c4, c5, c6, c7, c8, c9, c10, c11, c12, c13, c14, c15, cA, cB3, cB4, cK⟩ := hS; go_simp; try with_reducible rfl
    try simp only [Act.put, List.setIfInBounds_toArray, List.set_cons_zero, List.set_cons_succ]
    refine Go_.take (i := 23) (oi := ⟨some 58, Op.move (Operand.tmp 3), 3, _, _, some (19, true)⟩) (v := ?_) rfl (by kernel_rfl) (by kernel_rfl) (by kernel_rfl) rfl (fun _ _ _ h => h) (Or.inl ⟨by rfl, ?_⟩) ?_
    rotate_left; · intro w0 _; go_simp; try with_reducible rfl
    try simp only [Act.put, List.setIfInBounds_toArray, List.set_cons_zero, List.set_cons_succ]
    refine Go_.take (i := 24) (oi := ⟨some 59, Op.move (Operand.tmp 13), 24, _, _, some (19, true)⟩) (v := ?_) rfl (by kernel_rfl) (by kernel_rfl) (by kernel_rfl) rfl (fun _ _ _ h => h) (Or.inl ⟨by rfl, ?_⟩) ?_
    rotate_left; · intro w0 _; go_simp; try with_reducible rfl
    try simp only [Act.put, List.setIfInBounds_toArray, List.set_cons_zero, List.set_cons_succ]
    refine Go_.take (i := 28) (oi := ⟨some 63, Op.move (Operand.tmp 4), 24, _, _, some (19, true)⟩) (v := ?_) rfl (by kernel_rfl) (by kernel_rfl) (by kernel_rfl) rfl (fun _ _ _ h => h) (Or.inl ⟨by rfl, ?_⟩) ?_
    rotate_left; · intro w0 _; go_simp; try with_reducible rfl
    try simp only [Act.put, List.setIfInBounds_toArray, List.set_cons_zero, List.set_cons_succ]
    refine Go_.take (i := 29) (oi := ⟨some 64, Op.convert 24 9 (Operand.tmp 63), 9, _, _, some (19, true)⟩) (v := ?_) rfl (by kernel_rfl) (by kernel_rfl) (by kernel_rfl) rfl (fun _ _ _ h => h) (Or.inl ⟨by rfl, ?_⟩) ?_
    rotate_left; · intro w0 hS; obtain ⟨c0, c1, c2, c3, c4, c5, c6, c7, c8, c9, c10, c11, c12, c13, c14, c15, cA, cB3, cB4, cK⟩ := hS; go_simp; try with_reducible rfl
    try simp only [Act.put, List.setIfInBounds_toArray, List.set_cons_zero, List.set_cons_succ]
    refine Go_.step (i := 25) (o := ⟨some 60, Op.call { callee := Callee.value (Operand.func 48), args := #[Operand.tmp 57, Operand.tmp 58, Operand.tmp 59], argTypes := #[28, 3, 24] }, 24, _, _, some (19, true)⟩) (by kernel_rfl) rfl (fun K hT hK => ?_)
    replace hT := hT.1
    rw [if_pos (by rfl)]
    go_simp
    refine (lb_xor m _ q A13 r14 c13 (by have h5 := hl5.out; have h13 := hl13.out; omega) (env16_kp hT).2.1).mono ?_
    rintro e w' ⟨A25, c25, r25, rfl, hr25, hl25, hB25, hbx⟩
    refine hK.out _ _ (Till.of (env16_keep hT hbx)) ?_
    clear hT hK K
    refine Go_.step (i := 26) (o := ⟨some 61, Op.call { callee := Callee.value (Operand.func 48), args := #[Operand.tmp 55, Operand.tmp 56, Operand.tmp 60], argTypes := #[28, 3, 24] }, 24, _, _, some (19, true)⟩) (by kernel_rfl) rfl (fun K hT hK => ?_)
    replace hT := hT.1
    rw [if_pos (by rfl)]
    go_simp
    refine (lb_xor k _ p A25 r25 c25 (by have h5 := hl5.out; have h13 := hl13.out; have h25 := hl25.out; omega) hB25).mono ?_
    rintro e w' ⟨A26, c26, r26, rfl, hr26, hl26, hB26, hbx⟩
    have hfin := (env16_kp (env16_keep hT hbx)).1.below
    refine hK.out _ _ (Till.of (env16_keep hT hbx)) ?_
    clear hT hK K
    refine Go_.raise (C := fun w0 => Bts w0 A26 r26) hB26 ?_
    refine Go_.take (i := 27) (oi := ⟨some 62, Op.convert 24 9 (Operand.tmp 61), 9, _, _, some (19, true)⟩) (v := ?_) rfl (by kernel_rfl) (by kernel_rfl) (by kernel_rfl) rfl (fun _ _ _ h => h) (Or.inl ⟨by rfl, ?_⟩) ?_
    rotate_left; · intro w0 hS; obtain ⟨⟨c0, c1, c2, c3, c4, c5, c6, c7, c8, c9, c10, c11, c12, c13, c14, c15, cA, cB3, cB4, cK⟩, cB26⟩ := hS; go_simp; try with_reducible rfl
    try simp only [Act.put, List.setIfInBounds_toArray, List.set_cons_zero, List.set_cons_succ]
    refine Go_.take (i := 30) (oi := ⟨some 65, Op.binOp BinOp.eql 9 (Operand.tmp 62) (Operand.tmp 64) 9, 4, _, _, some (19, true)⟩) (v := ?_) rfl (by kernel_rfl) (by kernel_rfl) (by kernel_rfl) rfl (fun _ _ _ h => h) (Or.inl ⟨by rfl, ?_⟩) ?_
    rotate_left; · intro w0 _; go_simp; try with_reducible rfl
    try simp only [Act.put, List.setIfInBounds_toArray, List.set_cons_zero, List.set_cons_succ]
    refine Go_.take (i := 31) (oi := ⟨some 66, Op.pick (Operand.tmp 54) (Operand.tmp 65) (Operand.const (Value.bool false)), 4, _, _, none⟩) (v := ?_) rfl (by kernel_rfl) (by kernel_rfl) (by kernel_rfl) rfl (fun _ _ _ h => h) (Or.inl ⟨by rfl, ?_⟩) ?_
    rotate_left; · intro w0 _; go_simp; try with_reducible rfl
    try simp only [Act.put, List.setIfInBounds_toArray, List.set_cons_zero, List.set_cons_succ]
    refine Go_.take (i := 32) (oi := ⟨some 10, Op.assign (Operand.tmp 66), 4, _, _, none⟩) (v := ?_) rfl (by kernel_rfl) (by kernel_rfl) (by kernel_rfl) rfl (fun _ _ _ h => h) (Or.inl ⟨by rfl, ?_⟩) ?_
    rotate_left; · intro w0 _; go_simp; try with_reducible rfl
    try simp only [Act.put, List.setIfInBounds_toArray, List.set_cons_zero, List.set_cons_succ]
    refine Go_.done (by kernel_rfl) ?_
    go_wp2
    go_ret
    refine ⟨ret_bool3 ?_, hfin⟩
    rw [lk_fin hr5.out hr13.out hr25.out hr26.out]
    simp
end
set_option maxHeartbeats 4000000 in
theorem walk_LaneKeys (k m : K8) (p q : Int) (A : Option Addr) (l : List UInt8) (c : Nat) (w : World) (_hp : -9223372036854775808 ≤ p ∧ p < 9223372036854775808) (_hq : -9223372036854775808 ≤ q ∧ q < 9223372036854775808) (hB : Bts w A l) (_hl : l.length ≤ c) (_hc : c ≤ maxLen) :
    Calls Try.prog 19 #[.agg k.vals.toArray, .agg m.vals.toArray, .int .i64 p, .int .i64 q, .slice A l.length c] w fun e w' => e = .returned (.bool true) ∧ Below w.heap.size w w' := by
  by_cases h100 : 100 < l.length
  · have hb0 : Below w.heap.size w ((w.alloc (.cells k.vals.toArray 23)).alloc (.cells m.vals.toArray 23)) := ((Below.refl _ _).alloc (Nat.le_refl _) _).alloc (by simp) _
    unfold K8.vals at *
    go_enter Try.func19, Try.ntmps19
    go_wp2_with fail
    refine (told14 _).mono ?_
    rintro e w1 ⟨rfl, hb1⟩
    go_wp2
    go_ret
    exact ⟨rfl, hb0.trans (hb1.mono (by simp; omega))⟩
  · by_cases hkm : k = m
    · subst hkm
      exact lk_same k p q A l c w hB h100
    · exact lk_ne k m hkm p q A l c w hB h100
end Go.Proofs.Ytcdklmicbbcknaa
