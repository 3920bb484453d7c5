/-
  The told() of layer 16: it answers true, by a walk of its text (printed by kt.py).
-/
import Derived.Test.YtcdklmicbbcknaaKc
import Derived.Test.YtcdklmicbbcknaaTq
import Derived.Test.YtcdklmicbbcknaaTe
namespace Go.Proofs.Ytcdklmicbbcknaa
open Go Go.RowKit
section
variable {P : Program} {ops : Array Oper} {Q : Exit → Act → World → Prop} {md : Region.Mode} {A B : World → Prop} {e : Nat}
/-- Two operations may come up: both ways are walked. -/
theorem Go_.step2 {i j : Nat} {oi oj : Oper} {fuel : Nat} {listed : Array Bool} {a : Act} {w : World} (hr : Region.ready md ops listed = [i, j]) (hoi : ops[i]? = some oi) (hoj : ops[j]? = some oj)
    (hi : ∀ K : Act → World → Prop, Till e A B listed w → Shut (∀ a' w', Till e A B (listed.setIfInBounds i true) w' → Go_ P md ops Q e A B fuel (listed.setIfInBounds i true) a' w' → K a' w') →
      if Region.wanted oi (yielded ops a.tmps) = true then Oper.wp P oi a w K Q else K (a.put oi.dst undef) w)
    (hj : ∀ K : Act → World → Prop, Till e A B listed w → Shut (∀ a' w', Till e A B (listed.setIfInBounds j true) w' → Go_ P md ops Q e A B fuel (listed.setIfInBounds j true) a' w' → K a' w') →
      if Region.wanted oj (yielded ops a.tmps) = true then Oper.wp P oj a w K Q else K (a.put oj.dst undef) w) : Go_ P md ops Q e A B (fuel + 1) listed a w := fun hsh hTill => by
  refine ⟨fun h0 => (by rw [hr] at h0; cases h0), fun q hq => ?_⟩
  have hqr := hq
  rw [hr] at hq
  have hq2 : q = i ∨ q = j := by simpa using hq
  rcases hq2 with h | h
  · rw [h] at hqr ⊢
    exact wpOp_step hoi (fun K hK => hi K hTill (fun a' w' hT hG => hK a' w' ⟨hT, hG (hsh.next hqr) hT⟩))
  · rw [h] at hqr ⊢
    exact wpOp_step hoj (fun K hK => hj K hTill (fun a' w' hT hG => hK a' w' ⟨hT, hG (hsh.next hqr) hT⟩))
end
theorem far8v {w : World} {g g2 : Nat} {t : TypeId} {cs : List Value} {v0 v1 v2 v3 v4 v5 v6 v7 : Value} (h : Holds w g2 t cs) (hne : g2 ≠ g) : Holds ((((((((w.setCell ⟨g, 0, none⟩ v0).setCell ⟨g, 1, none⟩ v1).setCell ⟨g, 2, none⟩ v2).setCell ⟨g, 3, none⟩ v3).setCell ⟨g, 4, none⟩ v4).setCell ⟨g, 5, none⟩ v5).setCell ⟨g, 6, none⟩ v6).setCell ⟨g, 7, none⟩ v7) g2 t cs :=
  (Holds.far (p := ⟨g, 7, none⟩) (Holds.far (p := ⟨g, 6, none⟩) (Holds.far (p := ⟨g, 5, none⟩) (Holds.far (p := ⟨g, 4, none⟩) (Holds.far (p := ⟨g, 3, none⟩) (Holds.far (p := ⟨g, 2, none⟩) (Holds.far (p := ⟨g, 1, none⟩) (Holds.far (p := ⟨g, 0, none⟩) h hne v0) hne v1) hne v2) hne v3) hne v4) hne v5) hne v6) hne v7)
theorem below8v {w0 w : World} {g B : Nat} {v0 v1 v2 v3 v4 v5 v6 v7 : Value} (h : Below B w0 w) (hb : B ≤ g) : Below B w0 ((((((((w.setCell ⟨g, 0, none⟩ v0).setCell ⟨g, 1, none⟩ v1).setCell ⟨g, 2, none⟩ v2).setCell ⟨g, 3, none⟩ v3).setCell ⟨g, 4, none⟩ v4).setCell ⟨g, 5, none⟩ v5).setCell ⟨g, 6, none⟩ v6).setCell ⟨g, 7, none⟩ v7) :=
  (Below.setCell (p := ⟨g, 7, none⟩) (Below.setCell (p := ⟨g, 6, none⟩) (Below.setCell (p := ⟨g, 5, none⟩) (Below.setCell (p := ⟨g, 4, none⟩) (Below.setCell (p := ⟨g, 3, none⟩) (Below.setCell (p := ⟨g, 2, none⟩) (Below.setCell (p := ⟨g, 1, none⟩) (Below.setCell (p := ⟨g, 0, none⟩) h hb v0) hb v1) hb v2) hb v3) hb v4) hb v5) hb v6) hb v7)
theorem wp_mk {o : Oper} {a : Act} {K : Act → World → Prop} {Q : Exit → Act → World → Prop} {w : World} {n : Nat} (l c : Operand) (ho : o.op = Op.makeSlice 24 l c) (hl : a.eval l = .int .i64 n) (hc : a.eval c = .int .i64 n) (hn : n ≤ 140737488355328)
    (hK : ∀ w', Bts w' (some ⟨w.heap.size, 0, none⟩) (List.replicate n 0) → Below w.heap.size w w' → K (a.put o.dst (.slice (some ⟨w.heap.size, 0, none⟩) n n)) w') : o.wp Try.prog a w K Q := by
  obtain ⟨i, hi, hz, hs, hby⟩ := info_parts info5b
  obtain ⟨w', hrun, r1, r2⟩ := run_make_full (P := Try.prog) w w.heap.size 24 5 i (.int .u8 0) 1 Try.underlying24 hi hz hs .i64 .i64 n (by rw [hby]; omega) (by simp only [maxLen]; omega) (Nat.le_refl _)
  unfold Oper.wp
  simp [execOp, ho, hl, hc, hrun, Result.andThen]
  refine hK w' ?_ ((Below.refl w.heap.size w).grown r2 (Nat.le_refl _) (by simp))
  have e : (madeCells (Value.cells (.int .u8 0)) (n * 1)).toList = List.replicate n (.int .u8 0) := by rw [Nat.mul_one]; exact toList_madeCells_one (.int .u8 0) n
  rw [e] at r1
  have ho : Own w' w.heap.size (some ⟨w.heap.size, 0, none⟩) n (List.replicate n 0) := by
    unfold Own
    rw [List.length_replicate, bvals_zero]
    exact r1
  exact ho.bts
theorem wp_str {o : Oper} {a : Act} {K : Act → World → Prop} {Q : Exit → Act → World → Prop} {w : World} {A : Option Addr} {l : List UInt8} {n c : Nat} (x : Operand) (ho : o.op = .convert 24 9 x) (hx : a.eval x = .slice A n c) (hn : l.length = n) (hB : Bts w A l)
    (hK : K (a.put o.dst (.string (mkStr l))) w) : o.wp Try.prog a w K Q := by
  subst hn
  have hr := run_str hB c
  unfold Oper.wp execOp
  simp only [ho, hx, hr, Sem.run_bind, Sem.run_pure, Result.andThen_ok]
  exact hK
theorem with_holds {P : Program} {o : Oper} {a : Act} {w : World} {K : Act → World → Prop} {Q : Exit → Act → World → Prop} {g : Nat} {t : TypeId} {cs : List Value} (h : Holds w g t cs) (next : Holds w g t cs → Oper.wp P o a w K Q) : Oper.wp P o a w K Q := next h
theorem wp_al {o : Oper} {a : Act} {K : Act → World → Prop} {Q : Exit → Act → World → Prop} {w : World} (ho : o.op = Op.alloc 28)
    (hK : ∀ w', Holds w' w.heap.size 28 [.int .u32 0, .int .u32 0, .int .u32 0, .int .u32 0, .int .u32 0, .int .u32 0, .int .u32 0, .int .u32 0] → Below w.heap.size w w' → K (a.put o.dst (.pointer (some ⟨w.heap.size, 0, none⟩))) w') : o.wp Try.prog a w K Q := by
  obtain ⟨dst, op, type, pos, after, guard⟩ := o
  obtain rfl : op = Op.alloc 28 := ho
  go_simp
  exact hK _ (Holds.newAt w 28 [.int .u32 0, .int .u32 0, .int .u32 0, .int .u32 0, .int .u32 0, .int .u32 0, .int .u32 0, .int .u32 0] (n := w.heap.size) rfl) ((Below.refl _ _).alloc (Nat.le_refl _) _)
theorem Go_.doneA {P : Program} {ops : Array Oper} {Q : Exit → Act → World → Prop} {md : Region.Mode} {A B : World → Prop} {e : Nat} {fuel : Nat} {listed : Array Bool} {a : Act} {w : World} (hr : Region.ready md ops listed = []) (h : A w → Q .normal a w) : Go_ P md ops Q e A B fuel listed a w := fun hsh hT => (Go_.done (A := A) (B := B) (e := e) hr (h hT.1)) hsh hT
def Dif8 (a0 a1 a2 a3 a4 a5 a6 a7 b0 b1 b2 b3 b4 b5 b6 b7 : Int) : Prop := ¬ [a0, a1, a2, a3, a4, a5, a6, a7] = [b0, b1, b2, b3, b4, b5, b6, b7]
theorem neq_28_ne (w : World) (a0 a1 a2 a3 a4 a5 a6 a7 b0 b1 b2 b3 b4 b5 b6 b7 : Int) (h : Dif8 a0 a1 a2 a3 a4 a5 a6 a7 b0 b1 b2 b3 b4 b5 b6 b7) : (binOp .neq 28 (.agg #[.int .u32 a0, .int .u32 a1, .int .u32 a2, .int .u32 a3, .int .u32 a4, .int .u32 a5, .int .u32 a6, .int .u32 a7]) (.agg #[.int .u32 b0, .int .u32 b1, .int .u32 b2, .int .u32 b3, .int .u32 b4, .int .u32 b5, .int .u32 b6, .int .u32 b7])).run Try.prog w = .ok (.bool true) w := by
  obtain ⟨inf, hi, _⟩ : ∃ inf, Try.prog.info? 22 = some inf ∧ inf.size = 1 := by
    cases hx : Try.prog.info? 22 with
    | none => have := info22b; rw [hx] at this; cases this
    | some j => exact ⟨j, rfl, by have := info22b; rw [hx] at this; simpa using this⟩
  have h2 := run_neq_ints (P := Try.prog) w 28 22 8 .u32 Try.underlying28 hi cells22 Try.underlying22 [a0, a1, a2, a3, a4, a5, a6, a7] [b0, b1, b2, b3, b4, b5, b6, b7] rfl rfl
  rw [decide_eq_false h] at h2
  exact h2
theorem eql_26_same (w : World) (a0 a1 a2 a3 a4 a5 a6 a7 : Int) : (binOp .eql 26 (.agg #[.int .u8 a0, .int .u8 a1, .int .u8 a2, .int .u8 a3, .int .u8 a4, .int .u8 a5, .int .u8 a6, .int .u8 a7]) (.agg #[.int .u8 a0, .int .u8 a1, .int .u8 a2, .int .u8 a3, .int .u8 a4, .int .u8 a5, .int .u8 a6, .int .u8 a7])).run Try.prog w = .ok (.bool true) w := by
  obtain ⟨i, hi⟩ := Option.isSome_iff_exists.1 info5
  have h2 := run_eql_ints (P := Try.prog) w 26 5 8 .u8 Try.underlying26 hi cells5 Try.underlying5 [a0, a1, a2, a3, a4, a5, a6, a7] [a0, a1, a2, a3, a4, a5, a6, a7] rfl rfl
  rw [decide_eq_true rfl] at h2
  exact h2
def SZ : S8 := ⟨0, 0, 0, 0, 0, 0, 0, 0⟩
def K1 : K8 := keyL [112] SZ 1
def K2 : K8 := keyL [112] SZ 2
theorem k12 : Dif8 (W K1.k0) (W K1.k1) (W K1.k2) (W K1.k3) (W K1.k4) (W K1.k5) (W K1.k6) (W K1.k7) (W K2.k0) (W K2.k1) (W K2.k2) (W K2.k3) (W K2.k4) (W K2.k5) (W K2.k6) (W K2.k7) := by
  intro e
  simp only [List.cons.injEq] at e
  have h : ¬ W K1.k0 = W K2.k0 := by decide +kernel
  exact h e.1
theorem kt_1 (M : K8) (hM : Hid (M = K1)) (w : World) : Calls Try.prog 37 #[.string { data := #[112] }, .agg #[.int .u8 0, .int .u8 0, .int .u8 0, .int .u8 0, .int .u8 0, .int .u8 0, .int .u8 0, .int .u8 0], .int .i64 1] w fun e w' => e = .returned (.tuple #[.agg #[.int .u32 (W M.k0), .int .u32 (W M.k1), .int .u32 (W M.k2), .int .u32 (W M.k3), .int .u32 (W M.k4), .int .u32 (W M.k5), .int .u32 (W M.k6), .int .u32 (W M.k7)], .int .i64 0]) ∧ Below w.heap.size w w' := by
  obtain rfl := hM.out
  exact key_good [112] SZ 1 w (by simp) (by omega) (by omega)
theorem kt_2 (M : K8) (hM : Hid (M = K2)) (w : World) : Calls Try.prog 37 #[.string { data := #[112] }, .agg #[.int .u8 0, .int .u8 0, .int .u8 0, .int .u8 0, .int .u8 0, .int .u8 0, .int .u8 0, .int .u8 0], .int .i64 2] w fun e w' => e = .returned (.tuple #[.agg #[.int .u32 (W M.k0), .int .u32 (W M.k1), .int .u32 (W M.k2), .int .u32 (W M.k3), .int .u32 (W M.k4), .int .u32 (W M.k5), .int .u32 (W M.k6), .int .u32 (W M.k7)], .int .i64 0]) ∧ Below w.heap.size w w' := by
  obtain rfl := hM.out
  exact key_good [112] SZ 2 w (by simp) (by omega) (by omega)
theorem kt_3 (w : World) : Calls Try.prog 37 #[.string { data := #[112] }, .agg #[.int .u8 0, .int .u8 0, .int .u8 0, .int .u8 0, .int .u8 0, .int .u8 0, .int .u8 0, .int .u8 0], .int .i64 0] w fun e w' => e = .returned (.tuple #[.agg #[.int .u32 0, .int .u32 0, .int .u32 0, .int .u32 0, .int .u32 0, .int .u32 0, .int .u32 0, .int .u32 0], .int .i64 1]) ∧ Below w.heap.size w w' :=
  key_bad [112] SZ 0 w (by simp)
theorem kt_4 (l : List UInt8) (hl : l.length = 101) (w : World) : Calls Try.prog 37 #[.string (mkStr l), .agg #[.int .u8 0, .int .u8 0, .int .u8 0, .int .u8 0, .int .u8 0, .int .u8 0, .int .u8 0, .int .u8 0], .int .i64 1] w fun e w' => e = .returned (.tuple #[.agg #[.int .u32 0, .int .u32 0, .int .u32 0, .int .u32 0, .int .u32 0, .int .u32 0, .int .u32 0, .int .u32 0], .int .i64 1]) ∧ Below w.heap.size w w' :=
  key_bad l SZ 1 w (by omega)
theorem kt_check (k : K8) (t0 t1 t2 t3 t4 t5 t6 t7 : UInt8) (hT : Hid (tagL k (-1) [] = [t0, t1, t2, t3, t4, t5, t6, t7])) (w : World) : Calls Try.prog 39 #[.agg #[.int .u32 (W k.k0), .int .u32 (W k.k1), .int .u32 (W k.k2), .int .u32 (W k.k3), .int .u32 (W k.k4), .int .u32 (W k.k5), .int .u32 (W k.k6), .int .u32 (W k.k7)]] w fun e w' => e = .returned (.agg #[.int .u8 (t0.toNat : Int), .int .u8 (t1.toNat : Int), .int .u8 (t2.toNat : Int), .int .u8 (t3.toNat : Int), .int .u8 (t4.toNat : Int), .int .u8 (t5.toNat : Int), .int .u8 (t6.toNat : Int), .int .u8 (t7.toNat : Int)]) ∧ Below w.heap.size w w' := by
  have h := check_any k w
  rw [hT.out] at h
  exact h
def KtA (w0 : World) (g1 g2 : Nat) (k m : K8) (w : World) : Prop := Holds w w0.heap.size 26 [.int .u8 0, .int .u8 0, .int .u8 0, .int .u8 0, .int .u8 0, .int .u8 0, .int .u8 0, .int .u8 0] ∧ Holds w g1 28 [.int .u32 (W k.k0), .int .u32 (W k.k1), .int .u32 (W k.k2), .int .u32 (W k.k3), .int .u32 (W k.k4), .int .u32 (W k.k5), .int .u32 (W k.k6), .int .u32 (W k.k7)] ∧ Holds w g2 28 [.int .u32 (W m.k0), .int .u32 (W m.k1), .int .u32 (W m.k2), .int .u32 (W m.k3), .int .u32 (W m.k4), .int .u32 (W m.k5), .int .u32 (W m.k6), .int .u32 (W m.k7)] ∧ Below w0.heap.size w0 w
theorem KtA.keep {w0 w w' : World} {g1 g2 : Nat} {k m : K8} (h : KtA w0 g1 g2 k m w) (hb : Below w.heap.size w w') : KtA w0 g1 g2 k m w' :=
  ⟨h.1.below hb h.1.lt, h.2.1.below hb h.2.1.lt, h.2.2.1.below hb h.2.2.1.lt, h.2.2.2.trans (hb.mono h.2.2.2.size)⟩
theorem KtA.alloc {w0 w : World} {g1 g2 : Nat} {k m : K8} (h : KtA w0 g1 g2 k m w) (o : Obj) : KtA w0 g1 g2 k m (w.alloc o) := h.keep ((Below.refl _ _).alloc (Nat.le_refl _) o)
theorem KtA.set {w0 w : World} {g1 g2 g : Nat} {k m : K8} {v0 v1 v2 v3 v4 v5 v6 v7 : Value} (h : KtA w0 g1 g2 k m w) (hg : w0.heap.size < g ∧ g1 ≠ g ∧ g2 ≠ g) : KtA w0 g1 g2 k m ((((((((w.setCell ⟨g, 0, none⟩ v0).setCell ⟨g, 1, none⟩ v1).setCell ⟨g, 2, none⟩ v2).setCell ⟨g, 3, none⟩ v3).setCell ⟨g, 4, none⟩ v4).setCell ⟨g, 5, none⟩ v5).setCell ⟨g, 6, none⟩ v6).setCell ⟨g, 7, none⟩ v7) :=
  ⟨far8v h.1 (by omega), far8v h.2.1 hg.2.1, far8v h.2.2.1 hg.2.2, below8v h.2.2.2 (by omega)⟩
theorem ret_boolK {b : Bool} (h : b = true) : Ending.returned (.bool b) = .returned (.bool true) := by rw [h]
attribute [local go_sem ↓] neq_28_ne eql_26_same
set_option maxRecDepth 20000 in
set_option maxHeartbeats 16000000 in
theorem told16 (w : World) : Calls Try.prog 36 #[] w fun e w' => e = .returned (.bool true) ∧ Below w.heap.size w w' := by
  obtain ⟨k, hK1⟩ : ∃ k, Hid (k = K1) := ⟨_, rfl⟩
  obtain ⟨m, hK2⟩ : ∃ m, Hid (m = K2) := ⟨_, rfl⟩
  have hdif := k12
  rw [← hK1.out, ← hK2.out] at hdif
  have hs0 := Holds.newAt w 26 [.int .u8 0, .int .u8 0, .int .u8 0, .int .u8 0, .int .u8 0, .int .u8 0, .int .u8 0, .int .u8 0] (n := w.heap.size) rfl
  have hb0 : Below w.heap.size w (w.alloc (.cells #[.int .u8 0, .int .u8 0, .int .u8 0, .int .u8 0, .int .u8 0, .int .u8 0, .int .u8 0, .int .u8 0] 26)) := (Below.refl _ _).alloc (Nat.le_refl _) _
  obtain ⟨t0, t1, t2, t3, t4, t5, t6, t7, hTT⟩ : ∃ t0 t1 t2 t3 t4 t5 t6 t7, Hid (tagL k (-1) [] = [t0, t1, t2, t3, t4, t5, t6, t7]) := ⟨_, _, _, _, _, _, _, _, rfl⟩
  go_enter Try.func36, Try.ntmps36
  go_wp2_with fail
  refine (kt_1 k hK1 _).mono ?_
  rintro e w1 ⟨rfl, hb1⟩
  have hs1 := (hs0.below hb1 (by simp)).alloc (.cells #[.int .u32 (W k.k0), .int .u32 (W k.k1), .int .u32 (W k.k2), .int .u32 (W k.k3), .int .u32 (W k.k4), .int .u32 (W k.k5), .int .u32 (W k.k6), .int .u32 (W k.k7)] 28)
  have hk1 := Holds.newAt w1 28 [.int .u32 (W k.k0), .int .u32 (W k.k1), .int .u32 (W k.k2), .int .u32 (W k.k3), .int .u32 (W k.k4), .int .u32 (W k.k5), .int .u32 (W k.k6), .int .u32 (W k.k7)] (n := w1.heap.size) rfl
  have hbw1 := (hb0.trans (hb1.mono (by simp))).alloc (by have := hb1.size; simp at this; omega) (.cells #[.int .u32 (W k.k0), .int .u32 (W k.k1), .int .u32 (W k.k2), .int .u32 (W k.k3), .int .u32 (W k.k4), .int .u32 (W k.k5), .int .u32 (W k.k6), .int .u32 (W k.k7)] 28)
  have s8 := hs1.eight
  clear hs0 hb0 hb1
  go_wp2_with fail
  refine (kt_2 m hK2 _).mono ?_
  rintro e w2 ⟨rfl, hb2⟩
  have hs2 := (hs1.below hb2 hs1.lt).alloc (.cells #[.int .u32 (W m.k0), .int .u32 (W m.k1), .int .u32 (W m.k2), .int .u32 (W m.k3), .int .u32 (W m.k4), .int .u32 (W m.k5), .int .u32 (W m.k6), .int .u32 (W m.k7)] 28)
  have hk2 := (hk1.below hb2 hk1.lt).alloc (.cells #[.int .u32 (W m.k0), .int .u32 (W m.k1), .int .u32 (W m.k2), .int .u32 (W m.k3), .int .u32 (W m.k4), .int .u32 (W m.k5), .int .u32 (W m.k6), .int .u32 (W m.k7)] 28)
  have hm2 := Holds.newAt w2 28 [.int .u32 (W m.k0), .int .u32 (W m.k1), .int .u32 (W m.k2), .int .u32 (W m.k3), .int .u32 (W m.k4), .int .u32 (W m.k5), .int .u32 (W m.k6), .int .u32 (W m.k7)] (n := w2.heap.size) rfl
  have hbw2 := (hbw1.trans (hb2.mono hbw1.size)).alloc (by have := hbw1.size; have := hb2.size; omega) (.cells #[.int .u32 (W m.k0), .int .u32 (W m.k1), .int .u32 (W m.k2), .int .u32 (W m.k3), .int .u32 (W m.k4), .int .u32 (W m.k5), .int .u32 (W m.k6), .int .u32 (W m.k7)] 28)
  clear s8 hs1 hk1 hbw1 hb2
  have s8 := hs2.eight
  go_wp2_with fail
  refine (kt_3 _).mono ?_
  rintro e w3 ⟨rfl, hb3⟩
  have HA : KtA w w1.heap.size w2.heap.size k m (w3.alloc (.cells #[.int .u32 0, .int .u32 0, .int .u32 0, .int .u32 0, .int .u32 0, .int .u32 0, .int .u32 0, .int .u32 0] 28)) := ⟨(hs2.below hb3 hs2.lt).alloc _, (hk2.below hb3 hk2.lt).alloc _, (hm2.below hb3 hm2.lt).alloc _, (hbw2.trans (hb3.mono hbw2.size)).alloc (by have := hbw2.size; have := hb3.size; omega) _⟩
  clear s8 hs2 hk2 hm2 hbw2 hb3
  generalize w1.heap.size = g1 at *
  generalize w2.heap.size = g2 at *
  go_wp2_with fail
  generalize w3.alloc (.cells #[.int .u32 0, .int .u32 0, .int .u32 0, .int .u32 0, .int .u32 0, .int .u32 0, .int .u32 0, .int .u32 0] 28) = wq at *
  have HAH := Lib.hid HA
  clear HA
  obtain ⟨l5, hl5⟩ : ∃ l5 : List UInt8, Hid (l5 = List.replicate 101 0) := ⟨_, rfl⟩
  have hl5n : l5.length = 101 := by rw [hl5.out, List.length_replicate]
  refine wp_region_till 10 (fun w' => KtA w g1 g2 k m w') (fun _ => True) (by kernel_rfl) ((KtA.keep HAH.out (Below.refl _ _).drew)) trivial ?_
  show Go_ _ _ _ _ _ _ _ _ _ _ (World.drew _)
  refine Go_.take (i := 2) (oi := ⟨some 28, Op.load 26 (Operand.tmp 1), 26, _, _, none⟩) (v := ?_) rfl (by kernel_rfl) (by kernel_rfl) (by kernel_rfl) rfl (fun _ _ _ h => h) (Or.inl ⟨by rfl, ?_⟩) ?_
  rotate_left; · intro w0 hS; obtain ⟨hS1, hS2, hS3, hS4⟩ := hS; have h8 := hS1.eight; go_simp; try with_reducible rfl
  try simp only [Act.put, List.setIfInBounds_toArray, List.set_cons_zero, List.set_cons_succ]
  refine Go_.step2 (i := 0) (j := 7) (oi := ⟨some 26, Op.makeSlice 24 (Operand.const (Value.int IntKind.i64 101)) (Operand.const (Value.int IntKind.i64 101)), 24, _, _, none⟩) (oj := ⟨some 8, Op.alloc 28, 0, _, _, none⟩) (by kernel_rfl) rfl rfl (fun K hT hK => ?_) (fun K hT hK => ?_)
  · replace hT := hT.1
    rw [if_pos (by rfl)]
    refine wp_mk (.const (.int .i64 101)) (.const (.int .i64 101)) rfl (by rfl) (by rfl) (by decide) ?_
    intro w5 hB5 hb5
    rw [← hl5.out] at hB5
    refine hK.out _ _ (Till.of (KtA.keep hT hb5)) ?_
    clear hT hK K
    refine Go_.step2 (i := 1) (j := 7) (oi := ⟨some 27, Op.convert 24 9 (Operand.tmp 26), 9, _, _, none⟩) (oj := ⟨some 8, Op.alloc 28, 0, _, _, none⟩) (by kernel_rfl) rfl rfl (fun K hT hK => ?_) (fun K hT hK => ?_)
    · replace hT := hT.1
      rw [if_pos (by rfl)]
      refine wp_str (l := l5) (.tmp 26) rfl (by rfl) hl5n (by first | exact hB5 | exact hB5.below hb7) ?_
      refine hK.out _ _ (Till.of hT) ?_
      clear hT hK K
      refine Go_.step2 (i := 3) (j := 7) (oi := ⟨some 29, Op.call { callee := Callee.value (Operand.func 37), args := #[Operand.tmp 27, Operand.tmp 28, Operand.const (Value.int IntKind.i64 1)], argTypes := #[9, 26, 3] }, 52, _, _, none⟩) (oj := ⟨some 8, Op.alloc 28, 0, _, _, none⟩) (by kernel_rfl) rfl rfl (fun K hT hK => ?_) (fun K hT hK => ?_)
      · replace hT := hT.1
        rw [if_pos (by rfl)]
        go_simp
        refine (kt_4 l5 hl5n _).mono ?_
        rintro e w8 ⟨rfl, hb8⟩
        refine hK.out _ _ (Till.of (KtA.keep hT hb8)) ?_
        clear hT hK K
        refine Go_.take (i := 4) (oi := ⟨some 25, Op.move (Operand.tmp 29), 52, _, _, none⟩) (v := ?_) rfl (by kernel_rfl) (by kernel_rfl) (by kernel_rfl) rfl (fun _ _ _ h => h) (Or.inl ⟨by rfl, ?_⟩) ?_
        rotate_left; · intro w0 _; go_simp; try with_reducible rfl
        try simp only [Act.put, List.setIfInBounds_toArray, List.set_cons_zero, List.set_cons_succ]
        refine Go_.take (i := 5) (oi := ⟨some 30, Op.extract (Operand.tmp 25) 0, 28, _, _, none⟩) (v := ?_) rfl (by kernel_rfl) (by kernel_rfl) (by kernel_rfl) rfl (fun _ _ _ h => h) (Or.inl ⟨by rfl, ?_⟩) ?_
        rotate_left; · intro w0 _; go_simp; try with_reducible rfl
        try simp only [Act.put, List.setIfInBounds_toArray, List.set_cons_zero, List.set_cons_succ]
        refine Go_.take (i := 6) (oi := ⟨some 31, Op.extract (Operand.tmp 25) 1, 3, _, _, none⟩) (v := ?_) rfl (by kernel_rfl) (by kernel_rfl) (by kernel_rfl) rfl (fun _ _ _ h => h) (Or.inl ⟨by rfl, ?_⟩) ?_
        rotate_left; · intro w0 _; go_simp; try with_reducible rfl
        try simp only [Act.put, List.setIfInBounds_toArray, List.set_cons_zero, List.set_cons_succ]
        refine Go_.step (i := 7) (o := ⟨some 8, Op.alloc 28, 0, _, _, none⟩) (by kernel_rfl) rfl (fun K hT hK => ?_)
        replace hT := hT.1
        rw [if_pos (by rfl)]
        refine wp_al rfl ?_
        intro w7 h7 hb7
        have hl7 := And.intro hT.1.lt (And.intro hT.2.1.lt hT.2.2.1.lt)
        first | (change Holds w7 wq.heap.size 28 _ at h7; change w.heap.size < wq.heap.size ∧ g1 < wq.heap.size ∧ g2 < wq.heap.size at hl7) | skip
        refine hK.out _ _ (Till.of (KtA.keep hT hb7)) ?_
        clear hT hK K
        refine Go_.step (i := 8) (o := ⟨none, Op.store 28 (Operand.tmp 8) (Operand.tmp 30), 0, _, _, none⟩) (by kernel_rfl) rfl (fun K hT hK => ?_)
        replace hT := hT.1
        rw [if_pos (by rfl)]
        refine with_holds (t := 28) (by first | exact h7 | exact h7.below hb8 h7.lt | exact (h7.below hb5 h7.lt).below hb8 (h7.below hb5 h7.lt).lt) (fun hh => ?_)
        have z8 := hh.eight
        have zf := hh.eightFree
        clear hh
        go_simp
        refine hK.out _ _ (Till.of (KtA.set hT ⟨hl7.1, by omega, by omega⟩)) ?_
        clear hT hK K
        refine Go_.take (i := 9) (oi := ⟨some 9, Op.assign (Operand.tmp 31), 3, _, _, none⟩) (v := ?_) rfl (by kernel_rfl) (by kernel_rfl) (by kernel_rfl) rfl (fun _ _ _ h => h) (Or.inl ⟨by rfl, ?_⟩) ?_
        rotate_left; · intro w0 _; go_simp; try with_reducible rfl
        try simp only [Act.put, List.setIfInBounds_toArray, List.set_cons_zero, List.set_cons_succ]
        refine Go_.doneA (by kernel_rfl) (fun hA6 => ?_)
        have HS6 := Lib.hid (KtA.keep hA6 (Below.refl _ _).drew)
        clear hA6
        go_wp2_with fail
        refine wp_region_till 27 (fun w' => KtA w g1 g2 k m w') (fun _ => True) (by kernel_rfl) (HS6.out) trivial ?_
        show Go_ _ _ _ _ _ _ _ _ _ _ (World.drew _)
        refine Go_.take (i := 0) (oi := ⟨some 32, Op.move (Operand.tmp 3), 3, _, _, none⟩) (v := ?_) rfl (by kernel_rfl) (by kernel_rfl) (by kernel_rfl) rfl (fun _ _ _ h => h) (Or.inl ⟨by rfl, ?_⟩) ?_
        rotate_left; · intro w0 _; go_simp; try with_reducible rfl
        try simp only [Act.put, List.setIfInBounds_toArray, List.set_cons_zero, List.set_cons_succ]
        refine Go_.take (i := 1) (oi := ⟨some 33, Op.binOp BinOp.eql 3 (Operand.tmp 32) (Operand.const (Value.int IntKind.i64 0)) 3, 4, _, _, none⟩) (v := ?_) rfl (by kernel_rfl) (by kernel_rfl) (by kernel_rfl) rfl (fun _ _ _ h => h) (Or.inl ⟨by rfl, ?_⟩) ?_
        rotate_left; · intro w0 _; go_simp; try with_reducible rfl
        try simp only [Act.put, List.setIfInBounds_toArray, List.set_cons_zero, List.set_cons_succ]
        refine Go_.take (i := 2) (oi := ⟨some 34, Op.move (Operand.tmp 33), 4, _, _, none⟩) (v := ?_) rfl (by kernel_rfl) (by kernel_rfl) (by kernel_rfl) rfl (fun _ _ _ h => h) (Or.inl ⟨by rfl, ?_⟩) ?_
        rotate_left; · intro w0 _; go_simp; try with_reducible rfl
        try simp only [Act.put, List.setIfInBounds_toArray, List.set_cons_zero, List.set_cons_succ]
        refine Go_.take (i := 3) (oi := ⟨some 35, Op.move (Operand.tmp 5), 3, _, _, some (2, true)⟩) (v := ?_) rfl (by kernel_rfl) (by kernel_rfl) (by kernel_rfl) rfl (fun _ _ _ h => h) (Or.inl ⟨by rfl, ?_⟩) ?_
        rotate_left; · intro w0 _; go_simp; try with_reducible rfl
        try simp only [Act.put, List.setIfInBounds_toArray, List.set_cons_zero, List.set_cons_succ]
        refine Go_.take (i := 4) (oi := ⟨some 36, Op.binOp BinOp.eql 3 (Operand.tmp 35) (Operand.const (Value.int IntKind.i64 0)) 3, 4, _, _, some (2, true)⟩) (v := ?_) rfl (by kernel_rfl) (by kernel_rfl) (by kernel_rfl) rfl (fun _ _ _ h => h) (Or.inl ⟨by rfl, ?_⟩) ?_
        rotate_left; · intro w0 _; go_simp; try with_reducible rfl
        try simp only [Act.put, List.setIfInBounds_toArray, List.set_cons_zero, List.set_cons_succ]
        refine Go_.take (i := 5) (oi := ⟨some 37, Op.pick (Operand.tmp 34) (Operand.tmp 36) (Operand.const (Value.bool false)), 4, _, _, none⟩) (v := ?_) rfl (by kernel_rfl) (by kernel_rfl) (by kernel_rfl) rfl (fun _ _ _ h => h) (Or.inl ⟨by rfl, ?_⟩) ?_
        rotate_left; · intro w0 _; go_simp; try with_reducible rfl
        try simp only [Act.put, List.setIfInBounds_toArray, List.set_cons_zero, List.set_cons_succ]
        refine Go_.take (i := 6) (oi := ⟨some 38, Op.move (Operand.tmp 37), 4, _, _, none⟩) (v := ?_) rfl (by kernel_rfl) (by kernel_rfl) (by kernel_rfl) rfl (fun _ _ _ h => h) (Or.inl ⟨by rfl, ?_⟩) ?_
        rotate_left; · intro w0 _; go_simp; try with_reducible rfl
        try simp only [Act.put, List.setIfInBounds_toArray, List.set_cons_zero, List.set_cons_succ]
        refine Go_.take (i := 7) (oi := ⟨some 39, Op.load 28 (Operand.tmp 2), 28, _, _, some (6, true)⟩) (v := ?_) rfl (by kernel_rfl) (by kernel_rfl) (by kernel_rfl) rfl (fun _ _ _ h => h) (Or.inl ⟨by rfl, ?_⟩) ?_
        rotate_left; · intro w0 hS; obtain ⟨hS1, hS2, hS3, hS4⟩ := hS; have h8 := hS2.eight; have h82 := hS3.eight; go_simp; try with_reducible rfl
        try simp only [Act.put, List.setIfInBounds_toArray, List.set_cons_zero, List.set_cons_succ]
        refine Go_.take (i := 8) (oi := ⟨some 40, Op.load 28 (Operand.tmp 4), 28, _, _, some (6, true)⟩) (v := ?_) rfl (by kernel_rfl) (by kernel_rfl) (by kernel_rfl) rfl (fun _ _ _ h => h) (Or.inl ⟨by rfl, ?_⟩) ?_
        rotate_left; · intro w0 hS; obtain ⟨hS1, hS2, hS3, hS4⟩ := hS; have h8 := hS2.eight; have h82 := hS3.eight; go_simp; try with_reducible rfl
        try simp only [Act.put, List.setIfInBounds_toArray, List.set_cons_zero, List.set_cons_succ]
        refine Go_.take (i := 9) (oi := ⟨some 41, Op.binOp BinOp.neq 28 (Operand.tmp 39) (Operand.tmp 40) 28, 4, _, _, some (6, true)⟩) (v := ?_) rfl (by kernel_rfl) (by kernel_rfl) (by kernel_rfl) rfl (fun _ _ _ h => h) (Or.inl ⟨by rfl, ?_⟩) ?_
        rotate_left; · intro w0 _; go_simp; try with_reducible rfl
        try simp only [Act.put, List.setIfInBounds_toArray, List.set_cons_zero, List.set_cons_succ]
        refine Go_.take (i := 10) (oi := ⟨some 42, Op.pick (Operand.tmp 38) (Operand.tmp 41) (Operand.const (Value.bool false)), 4, _, _, none⟩) (v := ?_) rfl (by kernel_rfl) (by kernel_rfl) (by kernel_rfl) rfl (fun _ _ _ h => h) (Or.inl ⟨by rfl, ?_⟩) ?_
        rotate_left; · intro w0 _; go_simp; try with_reducible rfl
        try simp only [Act.put, List.setIfInBounds_toArray, List.set_cons_zero, List.set_cons_succ]
        refine Go_.take (i := 11) (oi := ⟨some 43, Op.move (Operand.tmp 42), 4, _, _, none⟩) (v := ?_) rfl (by kernel_rfl) (by kernel_rfl) (by kernel_rfl) rfl (fun _ _ _ h => h) (Or.inl ⟨by rfl, ?_⟩) ?_
        rotate_left; · intro w0 _; go_simp; try with_reducible rfl
        try simp only [Act.put, List.setIfInBounds_toArray, List.set_cons_zero, List.set_cons_succ]
        refine Go_.take (i := 12) (oi := ⟨some 44, Op.move (Operand.tmp 7), 3, _, _, some (11, true)⟩) (v := ?_) rfl (by kernel_rfl) (by kernel_rfl) (by kernel_rfl) rfl (fun _ _ _ h => h) (Or.inl ⟨by rfl, ?_⟩) ?_
        rotate_left; · intro w0 _; go_simp; try with_reducible rfl
        try simp only [Act.put, List.setIfInBounds_toArray, List.set_cons_zero, List.set_cons_succ]
        refine Go_.take (i := 13) (oi := ⟨some 45, Op.binOp BinOp.eql 3 (Operand.tmp 44) (Operand.const (Value.int IntKind.i64 1)) 3, 4, _, _, some (11, true)⟩) (v := ?_) rfl (by kernel_rfl) (by kernel_rfl) (by kernel_rfl) rfl (fun _ _ _ h => h) (Or.inl ⟨by rfl, ?_⟩) ?_
        rotate_left; · intro w0 _; go_simp; try with_reducible rfl
        try simp only [Act.put, List.setIfInBounds_toArray, List.set_cons_zero, List.set_cons_succ]
        refine Go_.take (i := 14) (oi := ⟨some 46, Op.pick (Operand.tmp 43) (Operand.tmp 45) (Operand.const (Value.bool false)), 4, _, _, none⟩) (v := ?_) rfl (by kernel_rfl) (by kernel_rfl) (by kernel_rfl) rfl (fun _ _ _ h => h) (Or.inl ⟨by rfl, ?_⟩) ?_
        rotate_left; · intro w0 _; go_simp; try with_reducible rfl
        try simp only [Act.put, List.setIfInBounds_toArray, List.set_cons_zero, List.set_cons_succ]
        refine Go_.take (i := 15) (oi := ⟨some 47, Op.move (Operand.tmp 46), 4, _, _, none⟩) (v := ?_) rfl (by kernel_rfl) (by kernel_rfl) (by kernel_rfl) rfl (fun _ _ _ h => h) (Or.inl ⟨by rfl, ?_⟩) ?_
        rotate_left; · intro w0 _; go_simp; try with_reducible rfl
        try simp only [Act.put, List.setIfInBounds_toArray, List.set_cons_zero, List.set_cons_succ]
        refine Go_.take (i := 16) (oi := ⟨some 48, Op.move (Operand.tmp 9), 3, _, _, some (15, true)⟩) (v := ?_) rfl (by kernel_rfl) (by kernel_rfl) (by kernel_rfl) rfl (fun _ _ _ h => h) (Or.inl ⟨by rfl, ?_⟩) ?_
        rotate_left; · intro w0 _; go_simp; try with_reducible rfl
        try simp only [Act.put, List.setIfInBounds_toArray, List.set_cons_zero, List.set_cons_succ]
        refine Go_.take (i := 17) (oi := ⟨some 49, Op.binOp BinOp.eql 3 (Operand.tmp 48) (Operand.const (Value.int IntKind.i64 1)) 3, 4, _, _, some (15, true)⟩) (v := ?_) rfl (by kernel_rfl) (by kernel_rfl) (by kernel_rfl) rfl (fun _ _ _ h => h) (Or.inl ⟨by rfl, ?_⟩) ?_
        rotate_left; · intro w0 _; go_simp; try with_reducible rfl
        try simp only [Act.put, List.setIfInBounds_toArray, List.set_cons_zero, List.set_cons_succ]
        refine Go_.take (i := 18) (oi := ⟨some 50, Op.pick (Operand.tmp 47) (Operand.tmp 49) (Operand.const (Value.bool false)), 4, _, _, none⟩) (v := ?_) rfl (by kernel_rfl) (by kernel_rfl) (by kernel_rfl) rfl (fun _ _ _ h => h) (Or.inl ⟨by rfl, ?_⟩) ?_
        rotate_left; · intro w0 _; go_simp; try with_reducible rfl
        try simp only [Act.put, List.setIfInBounds_toArray, List.set_cons_zero, List.set_cons_succ]
        refine Go_.take (i := 19) (oi := ⟨some 51, Op.move (Operand.tmp 50), 4, _, _, none⟩) (v := ?_) rfl (by kernel_rfl) (by kernel_rfl) (by kernel_rfl) rfl (fun _ _ _ h => h) (Or.inl ⟨by rfl, ?_⟩) ?_
        rotate_left; · intro w0 _; go_simp; try with_reducible rfl
        try simp only [Act.put, List.setIfInBounds_toArray, List.set_cons_zero, List.set_cons_succ]
        refine Go_.take (i := 20) (oi := ⟨some 52, Op.load 28 (Operand.tmp 2), 28, _, _, some (19, true)⟩) (v := ?_) rfl (by kernel_rfl) (by kernel_rfl) (by kernel_rfl) rfl (fun _ _ _ h => h) (Or.inl ⟨by rfl, ?_⟩) ?_
        rotate_left; · intro w0 hS; obtain ⟨hS1, hS2, hS3, hS4⟩ := hS; have h8 := hS2.eight; have h82 := hS3.eight; go_simp; try with_reducible rfl
        try simp only [Act.put, List.setIfInBounds_toArray, List.set_cons_zero, List.set_cons_succ]
        refine Go_.take (i := 22) (oi := ⟨some 54, Op.load 28 (Operand.tmp 2), 28, _, _, some (19, true)⟩) (v := ?_) rfl (by kernel_rfl) (by kernel_rfl) (by kernel_rfl) rfl (fun _ _ _ h => h) (Or.inl ⟨by rfl, ?_⟩) ?_
        rotate_left; · intro w0 hS; obtain ⟨hS1, hS2, hS3, hS4⟩ := hS; have h8 := hS2.eight; have h82 := hS3.eight; go_simp; try with_reducible rfl
        try simp only [Act.put, List.setIfInBounds_toArray, List.set_cons_zero, List.set_cons_succ]
        refine Go_.step (i := 21) (o := ⟨some 53, Op.call { callee := Callee.value (Operand.func 39), args := #[Operand.tmp 52], argTypes := #[28] }, 26, _, _, some (19, true)⟩) (by kernel_rfl) rfl (fun K hT hK => ?_)
        replace hT := hT.1
        rw [if_pos (by rfl)]
        go_simp
        refine (kt_check k _ _ _ _ _ _ _ _ hTT _).mono ?_
        rintro e w' ⟨rfl, hbx⟩
        refine hK.out _ _ (Till.of (KtA.keep hT hbx)) ?_
        clear hT hK K
        refine Go_.step (i := 23) (o := ⟨some 55, Op.call { callee := Callee.value (Operand.func 39), args := #[Operand.tmp 54], argTypes := #[28] }, 26, _, _, some (19, true)⟩) (by kernel_rfl) rfl (fun K hT hK => ?_)
        replace hT := hT.1
        rw [if_pos (by rfl)]
        go_simp
        refine (kt_check k _ _ _ _ _ _ _ _ hTT _).mono ?_
        rintro e w' ⟨rfl, hbx⟩
        have hfin := (KtA.keep hT hbx).2.2.2
        refine hK.out _ _ (Till.of (KtA.keep hT hbx)) ?_
        clear hT hK K
        refine Go_.take (i := 24) (oi := ⟨some 56, Op.binOp BinOp.eql 26 (Operand.tmp 53) (Operand.tmp 55) 26, 4, _, _, some (19, true)⟩) (v := ?_) rfl (by kernel_rfl) (by kernel_rfl) (by kernel_rfl) rfl (fun _ _ _ h => h) (Or.inl ⟨by rfl, ?_⟩) ?_
        rotate_left; · intro w0 _; go_simp; try with_reducible rfl
        try simp only [Act.put, List.setIfInBounds_toArray, List.set_cons_zero, List.set_cons_succ]
        refine Go_.take (i := 25) (oi := ⟨some 57, Op.pick (Operand.tmp 51) (Operand.tmp 56) (Operand.const (Value.bool false)), 4, _, _, none⟩) (v := ?_) rfl (by kernel_rfl) (by kernel_rfl) (by kernel_rfl) rfl (fun _ _ _ h => h) (Or.inl ⟨by rfl, ?_⟩) ?_
        rotate_left; · intro w0 _; go_simp; try with_reducible rfl
        try simp only [Act.put, List.setIfInBounds_toArray, List.set_cons_zero, List.set_cons_succ]
        refine Go_.take (i := 26) (oi := ⟨some 0, Op.assign (Operand.tmp 57), 4, _, _, none⟩) (v := ?_) rfl (by kernel_rfl) (by kernel_rfl) (by kernel_rfl) rfl (fun _ _ _ h => h) (Or.inl ⟨by rfl, ?_⟩) ?_
        rotate_left; · intro w0 _; go_simp; try with_reducible rfl
        try simp only [Act.put, List.setIfInBounds_toArray, List.set_cons_zero]
        refine Go_.done (by kernel_rfl) ?_
        go_wp2
        go_ret
        exact ⟨ret_boolK (by simp), hfin⟩
      · replace hT := hT.1
        rw [if_pos (by rfl)]
        refine wp_al rfl ?_
        intro w7 h7 hb7
        have hl7 := And.intro hT.1.lt (And.intro hT.2.1.lt hT.2.2.1.lt)
        first | (change Holds w7 wq.heap.size 28 _ at h7; change w.heap.size < wq.heap.size ∧ g1 < wq.heap.size ∧ g2 < wq.heap.size at hl7) | skip
        refine hK.out _ _ (Till.of (KtA.keep hT hb7)) ?_
        clear hT hK K
        refine Go_.step (i := 3) (o := ⟨some 29, Op.call { callee := Callee.value (Operand.func 37), args := #[Operand.tmp 27, Operand.tmp 28, Operand.const (Value.int IntKind.i64 1)], argTypes := #[9, 26, 3] }, 52, _, _, none⟩) (by kernel_rfl) rfl (fun K hT hK => ?_)
        replace hT := hT.1
        rw [if_pos (by rfl)]
        go_simp
        refine (kt_4 l5 hl5n _).mono ?_
        rintro e w8 ⟨rfl, hb8⟩
        refine hK.out _ _ (Till.of (KtA.keep hT hb8)) ?_
        clear hT hK K
        refine Go_.take (i := 4) (oi := ⟨some 25, Op.move (Operand.tmp 29), 52, _, _, none⟩) (v := ?_) rfl (by kernel_rfl) (by kernel_rfl) (by kernel_rfl) rfl (fun _ _ _ h => h) (Or.inl ⟨by rfl, ?_⟩) ?_
        rotate_left; · intro w0 _; go_simp; try with_reducible rfl
        try simp only [Act.put, List.setIfInBounds_toArray, List.set_cons_zero, List.set_cons_succ]
        refine Go_.take (i := 5) (oi := ⟨some 30, Op.extract (Operand.tmp 25) 0, 28, _, _, none⟩) (v := ?_) rfl (by kernel_rfl) (by kernel_rfl) (by kernel_rfl) rfl (fun _ _ _ h => h) (Or.inl ⟨by rfl, ?_⟩) ?_
        rotate_left; · intro w0 _; go_simp; try with_reducible rfl
        try simp only [Act.put, List.setIfInBounds_toArray, List.set_cons_zero, List.set_cons_succ]
        refine Go_.take (i := 6) (oi := ⟨some 31, Op.extract (Operand.tmp 25) 1, 3, _, _, none⟩) (v := ?_) rfl (by kernel_rfl) (by kernel_rfl) (by kernel_rfl) rfl (fun _ _ _ h => h) (Or.inl ⟨by rfl, ?_⟩) ?_
        rotate_left; · intro w0 _; go_simp; try with_reducible rfl
        try simp only [Act.put, List.setIfInBounds_toArray, List.set_cons_zero, List.set_cons_succ]
        refine Go_.step (i := 8) (o := ⟨none, Op.store 28 (Operand.tmp 8) (Operand.tmp 30), 0, _, _, none⟩) (by kernel_rfl) rfl (fun K hT hK => ?_)
        replace hT := hT.1
        rw [if_pos (by rfl)]
        refine with_holds (t := 28) (by first | exact h7 | exact h7.below hb8 h7.lt | exact (h7.below hb5 h7.lt).below hb8 (h7.below hb5 h7.lt).lt) (fun hh => ?_)
        have z8 := hh.eight
        have zf := hh.eightFree
        clear hh
        go_simp
        refine hK.out _ _ (Till.of (KtA.set hT ⟨hl7.1, by omega, by omega⟩)) ?_
        clear hT hK K
        refine Go_.take (i := 9) (oi := ⟨some 9, Op.assign (Operand.tmp 31), 3, _, _, none⟩) (v := ?_) rfl (by kernel_rfl) (by kernel_rfl) (by kernel_rfl) rfl (fun _ _ _ h => h) (Or.inl ⟨by rfl, ?_⟩) ?_
        rotate_left; · intro w0 _; go_simp; try with_reducible rfl
        try simp only [Act.put, List.setIfInBounds_toArray, List.set_cons_zero, List.set_cons_succ]
        refine Go_.doneA (by kernel_rfl) (fun hA6 => ?_)
        have HS6 := Lib.hid (KtA.keep hA6 (Below.refl _ _).drew)
        clear hA6
        go_wp2_with fail
        refine wp_region_till 27 (fun w' => KtA w g1 g2 k m w') (fun _ => True) (by kernel_rfl) (HS6.out) trivial ?_
        show Go_ _ _ _ _ _ _ _ _ _ _ (World.drew _)
        refine Go_.take (i := 0) (oi := ⟨some 32, Op.move (Operand.tmp 3), 3, _, _, none⟩) (v := ?_) rfl (by kernel_rfl) (by kernel_rfl) (by kernel_rfl) rfl (fun _ _ _ h => h) (Or.inl ⟨by rfl, ?_⟩) ?_
        rotate_left; · intro w0 _; go_simp; try with_reducible rfl
        try simp only [Act.put, List.setIfInBounds_toArray, List.set_cons_zero, List.set_cons_succ]
        refine Go_.take (i := 1) (oi := ⟨some 33, Op.binOp BinOp.eql 3 (Operand.tmp 32) (Operand.const (Value.int IntKind.i64 0)) 3, 4, _, _, none⟩) (v := ?_) rfl (by kernel_rfl) (by kernel_rfl) (by kernel_rfl) rfl (fun _ _ _ h => h) (Or.inl ⟨by rfl, ?_⟩) ?_
        rotate_left; · intro w0 _; go_simp; try with_reducible rfl
        try simp only [Act.put, List.setIfInBounds_toArray, List.set_cons_zero, List.set_cons_succ]
        refine Go_.take (i := 2) (oi := ⟨some 34, Op.move (Operand.tmp 33), 4, _, _, none⟩) (v := ?_) rfl (by kernel_rfl) (by kernel_rfl) (by kernel_rfl) rfl (fun _ _ _ h => h) (Or.inl ⟨by rfl, ?_⟩) ?_
        rotate_left; · intro w0 _; go_simp; try with_reducible rfl
        try simp only [Act.put, List.setIfInBounds_toArray, List.set_cons_zero, List.set_cons_succ]
        refine Go_.take (i := 3) (oi := ⟨some 35, Op.move (Operand.tmp 5), 3, _, _, some (2, true)⟩) (v := ?_) rfl (by kernel_rfl) (by kernel_rfl) (by kernel_rfl) rfl (fun _ _ _ h => h) (Or.inl ⟨by rfl, ?_⟩) ?_
        rotate_left; · intro w0 _; go_simp; try with_reducible rfl
        try simp only [Act.put, List.setIfInBounds_toArray, List.set_cons_zero, List.set_cons_succ]
        refine Go_.take (i := 4) (oi := ⟨some 36, Op.binOp BinOp.eql 3 (Operand.tmp 35) (Operand.const (Value.int IntKind.i64 0)) 3, 4, _, _, some (2, true)⟩) (v := ?_) rfl (by kernel_rfl) (by kernel_rfl) (by kernel_rfl) rfl (fun _ _ _ h => h) (Or.inl ⟨by rfl, ?_⟩) ?_
        rotate_left; · intro w0 _; go_simp; try with_reducible rfl
        try simp only [Act.put, List.setIfInBounds_toArray, List.set_cons_zero, List.set_cons_succ]
        refine Go_.take (i := 5) (oi := ⟨some 37, Op.pick (Operand.tmp 34) (Operand.tmp 36) (Operand.const (Value.bool false)), 4, _, _, none⟩) (v := ?_) rfl (by kernel_rfl) (by kernel_rfl) (by kernel_rfl) rfl (fun _ _ _ h => h) (Or.inl ⟨by rfl, ?_⟩) ?_
        rotate_left; · intro w0 _; go_simp; try with_reducible rfl
        try simp only [Act.put, List.setIfInBounds_toArray, List.set_cons_zero, List.set_cons_succ]
        refine Go_.take (i := 6) (oi := ⟨some 38, Op.move (Operand.tmp 37), 4, _, _, none⟩) (v := ?_) rfl (by kernel_rfl) (by kernel_rfl) (by kernel_rfl) rfl (fun _ _ _ h => h) (Or.inl ⟨by rfl, ?_⟩) ?_
        rotate_left; · intro w0 _; go_simp; try with_reducible rfl
        try simp only [Act.put, List.setIfInBounds_toArray, List.set_cons_zero, List.set_cons_succ]
        refine Go_.take (i := 7) (oi := ⟨some 39, Op.load 28 (Operand.tmp 2), 28, _, _, some (6, true)⟩) (v := ?_) rfl (by kernel_rfl) (by kernel_rfl) (by kernel_rfl) rfl (fun _ _ _ h => h) (Or.inl ⟨by rfl, ?_⟩) ?_
        rotate_left; · intro w0 hS; obtain ⟨hS1, hS2, hS3, hS4⟩ := hS; have h8 := hS2.eight; have h82 := hS3.eight; go_simp; try with_reducible rfl
        try simp only [Act.put, List.setIfInBounds_toArray, List.set_cons_zero, List.set_cons_succ]
        refine Go_.take (i := 8) (oi := ⟨some 40, Op.load 28 (Operand.tmp 4), 28, _, _, some (6, true)⟩) (v := ?_) rfl (by kernel_rfl) (by kernel_rfl) (by kernel_rfl) rfl (fun _ _ _ h => h) (Or.inl ⟨by rfl, ?_⟩) ?_
        rotate_left; · intro w0 hS; obtain ⟨hS1, hS2, hS3, hS4⟩ := hS; have h8 := hS2.eight; have h82 := hS3.eight; go_simp; try with_reducible rfl
        try simp only [Act.put, List.setIfInBounds_toArray, List.set_cons_zero, List.set_cons_succ]
        refine Go_.take (i := 9) (oi := ⟨some 41, Op.binOp BinOp.neq 28 (Operand.tmp 39) (Operand.tmp 40) 28, 4, _, _, some (6, true)⟩) (v := ?_) rfl (by kernel_rfl) (by kernel_rfl) (by kernel_rfl) rfl (fun _ _ _ h => h) (Or.inl ⟨by rfl, ?_⟩) ?_
        rotate_left; · intro w0 _; go_simp; try with_reducible rfl
        try simp only [Act.put, List.setIfInBounds_toArray, List.set_cons_zero, List.set_cons_succ]
        refine Go_.take (i := 10) (oi := ⟨some 42, Op.pick (Operand.tmp 38) (Operand.tmp 41) (Operand.const (Value.bool false)), 4, _, _, none⟩) (v := ?_) rfl (by kernel_rfl) (by kernel_rfl) (by kernel_rfl) rfl (fun _ _ _ h => h) (Or.inl ⟨by rfl, ?_⟩) ?_
        rotate_left; · intro w0 _; go_simp; try with_reducible rfl
        try simp only [Act.put, List.setIfInBounds_toArray, List.set_cons_zero, List.set_cons_succ]
        refine Go_.take (i := 11) (oi := ⟨some 43, Op.move (Operand.tmp 42), 4, _, _, none⟩) (v := ?_) rfl (by kernel_rfl) (by kernel_rfl) (by kernel_rfl) rfl (fun _ _ _ h => h) (Or.inl ⟨by rfl, ?_⟩) ?_
        rotate_left; · intro w0 _; go_simp; try with_reducible rfl
        try simp only [Act.put, List.setIfInBounds_toArray, List.set_cons_zero, List.set_cons_succ]
        refine Go_.take (i := 12) (oi := ⟨some 44, Op.move (Operand.tmp 7), 3, _, _, some (11, true)⟩) (v := ?_) rfl (by kernel_rfl) (by kernel_rfl) (by kernel_rfl) rfl (fun _ _ _ h => h) (Or.inl ⟨by rfl, ?_⟩) ?_
        rotate_left; · intro w0 _; go_simp; try with_reducible rfl
        try simp only [Act.put, List.setIfInBounds_toArray, List.set_cons_zero, List.set_cons_succ]
        refine Go_.take (i := 13) (oi := ⟨some 45, Op.binOp BinOp.eql 3 (Operand.tmp 44) (Operand.const (Value.int IntKind.i64 1)) 3, 4, _, _, some (11, true)⟩) (v := ?_) rfl (by kernel_rfl) (by kernel_rfl) (by kernel_rfl) rfl (fun _ _ _ h => h) (Or.inl ⟨by rfl, ?_⟩) ?_
        rotate_left; · intro w0 _; go_simp; try with_reducible rfl
        try simp only [Act.put, List.setIfInBounds_toArray, List.set_cons_zero, List.set_cons_succ]
        refine Go_.take (i := 14) (oi := ⟨some 46, Op.pick (Operand.tmp 43) (Operand.tmp 45) (Operand.const (Value.bool false)), 4, _, _, none⟩) (v := ?_) rfl (by kernel_rfl) (by kernel_rfl) (by kernel_rfl) rfl (fun _ _ _ h => h) (Or.inl ⟨by rfl, ?_⟩) ?_
        rotate_left; · intro w0 _; go_simp; try with_reducible rfl
        try simp only [Act.put, List.setIfInBounds_toArray, List.set_cons_zero, List.set_cons_succ]
        refine Go_.take (i := 15) (oi := ⟨some 47, Op.move (Operand.tmp 46), 4, _, _, none⟩) (v := ?_) rfl (by kernel_rfl) (by kernel_rfl) (by kernel_rfl) rfl (fun _ _ _ h => h) (Or.inl ⟨by rfl, ?_⟩) ?_
        rotate_left; · intro w0 _; go_simp; try with_reducible rfl
        try simp only [Act.put, List.setIfInBounds_toArray, List.set_cons_zero, List.set_cons_succ]
        refine Go_.take (i := 16) (oi := ⟨some 48, Op.move (Operand.tmp 9), 3, _, _, some (15, true)⟩) (v := ?_) rfl (by kernel_rfl) (by kernel_rfl) (by kernel_rfl) rfl (fun _ _ _ h => h) (Or.inl ⟨by rfl, ?_⟩) ?_
        rotate_left; · intro w0 _; go_simp; try with_reducible rfl
        try simp only [Act.put, List.setIfInBounds_toArray, List.set_cons_zero, List.set_cons_succ]
        refine Go_.take (i := 17) (oi := ⟨some 49, Op.binOp BinOp.eql 3 (Operand.tmp 48) (Operand.const (Value.int IntKind.i64 1)) 3, 4, _, _, some (15, true)⟩) (v := ?_) rfl (by kernel_rfl) (by kernel_rfl) (by kernel_rfl) rfl (fun _ _ _ h => h) (Or.inl ⟨by rfl, ?_⟩) ?_
        rotate_left; · intro w0 _; go_simp; try with_reducible rfl
        try simp only [Act.put, List.setIfInBounds_toArray, List.set_cons_zero, List.set_cons_succ]
        refine Go_.take (i := 18) (oi := ⟨some 50, Op.pick (Operand.tmp 47) (Operand.tmp 49) (Operand.const (Value.bool false)), 4, _, _, none⟩) (v := ?_) rfl (by kernel_rfl) (by kernel_rfl) (by kernel_rfl) rfl (fun _ _ _ h => h) (Or.inl ⟨by rfl, ?_⟩) ?_
        rotate_left; · intro w0 _; go_simp; try with_reducible rfl
        try simp only [Act.put, List.setIfInBounds_toArray, List.set_cons_zero, List.set_cons_succ]
        refine Go_.take (i := 19) (oi := ⟨some 51, Op.move (Operand.tmp 50), 4, _, _, none⟩) (v := ?_) rfl (by kernel_rfl) (by kernel_rfl) (by kernel_rfl) rfl (fun _ _ _ h => h) (Or.inl ⟨by rfl, ?_⟩) ?_
        rotate_left; · intro w0 _; go_simp; try with_reducible rfl
        try simp only [Act.put, List.setIfInBounds_toArray, List.set_cons_zero, List.set_cons_succ]
        refine Go_.take (i := 20) (oi := ⟨some 52, Op.load 28 (Operand.tmp 2), 28, _, _, some (19, true)⟩) (v := ?_) rfl (by kernel_rfl) (by kernel_rfl) (by kernel_rfl) rfl (fun _ _ _ h => h) (Or.inl ⟨by rfl, ?_⟩) ?_
        rotate_left; · intro w0 hS; obtain ⟨hS1, hS2, hS3, hS4⟩ := hS; have h8 := hS2.eight; have h82 := hS3.eight; go_simp; try with_reducible rfl
        try simp only [Act.put, List.setIfInBounds_toArray, List.set_cons_zero, List.set_cons_succ]
        refine Go_.take (i := 22) (oi := ⟨some 54, Op.load 28 (Operand.tmp 2), 28, _, _, some (19, true)⟩) (v := ?_) rfl (by kernel_rfl) (by kernel_rfl) (by kernel_rfl) rfl (fun _ _ _ h => h) (Or.inl ⟨by rfl, ?_⟩) ?_
        rotate_left; · intro w0 hS; obtain ⟨hS1, hS2, hS3, hS4⟩ := hS; have h8 := hS2.eight; have h82 := hS3.eight; go_simp; try with_reducible rfl
        try simp only [Act.put, List.setIfInBounds_toArray, List.set_cons_zero, List.set_cons_succ]
        refine Go_.step (i := 21) (o := ⟨some 53, Op.call { callee := Callee.value (Operand.func 39), args := #[Operand.tmp 52], argTypes := #[28] }, 26, _, _, some (19, true)⟩) (by kernel_rfl) rfl (fun K hT hK => ?_)
        replace hT := hT.1
        rw [if_pos (by rfl)]
        go_simp
        refine (kt_check k _ _ _ _ _ _ _ _ hTT _).mono ?_
        rintro e w' ⟨rfl, hbx⟩
        refine hK.out _ _ (Till.of (KtA.keep hT hbx)) ?_
        clear hT hK K
        refine Go_.step (i := 23) (o := ⟨some 55, Op.call { callee := Callee.value (Operand.func 39), args := #[Operand.tmp 54], argTypes := #[28] }, 26, _, _, some (19, true)⟩) (by kernel_rfl) rfl (fun K hT hK => ?_)
        replace hT := hT.1
        rw [if_pos (by rfl)]
        go_simp
        refine (kt_check k _ _ _ _ _ _ _ _ hTT _).mono ?_
        rintro e w' ⟨rfl, hbx⟩
        have hfin := (KtA.keep hT hbx).2.2.2
        refine hK.out _ _ (Till.of (KtA.keep hT hbx)) ?_
        clear hT hK K
        refine Go_.take (i := 24) (oi := ⟨some 56, Op.binOp BinOp.eql 26 (Operand.tmp 53) (Operand.tmp 55) 26, 4, _, _, some (19, true)⟩) (v := ?_) rfl (by kernel_rfl) (by kernel_rfl) (by kernel_rfl) rfl (fun _ _ _ h => h) (Or.inl ⟨by rfl, ?_⟩) ?_
        rotate_left; · intro w0 _; go_simp; try with_reducible rfl
        try simp only [Act.put, List.setIfInBounds_toArray, List.set_cons_zero, List.set_cons_succ]
        refine Go_.take (i := 25) (oi := ⟨some 57, Op.pick (Operand.tmp 51) (Operand.tmp 56) (Operand.const (Value.bool false)), 4, _, _, none⟩) (v := ?_) rfl (by kernel_rfl) (by kernel_rfl) (by kernel_rfl) rfl (fun _ _ _ h => h) (Or.inl ⟨by rfl, ?_⟩) ?_
        rotate_left; · intro w0 _; go_simp; try with_reducible rfl
        try simp only [Act.put, List.setIfInBounds_toArray, List.set_cons_zero, List.set_cons_succ]
        refine Go_.take (i := 26) (oi := ⟨some 0, Op.assign (Operand.tmp 57), 4, _, _, none⟩) (v := ?_) rfl (by kernel_rfl) (by kernel_rfl) (by kernel_rfl) rfl (fun _ _ _ h => h) (Or.inl ⟨by rfl, ?_⟩) ?_
        rotate_left; · intro w0 _; go_simp; try with_reducible rfl
        try simp only [Act.put, List.setIfInBounds_toArray, List.set_cons_zero]
        refine Go_.done (by kernel_rfl) ?_
        go_wp2
        go_ret
        exact ⟨ret_boolK (by simp), hfin⟩
    · replace hT := hT.1
      rw [if_pos (by rfl)]
      refine wp_al rfl ?_
      intro w7 h7 hb7
      have hl7 := And.intro hT.1.lt (And.intro hT.2.1.lt hT.2.2.1.lt)
      first | (change Holds w7 wq.heap.size 28 _ at h7; change w.heap.size < wq.heap.size ∧ g1 < wq.heap.size ∧ g2 < wq.heap.size at hl7) | skip
      refine hK.out _ _ (Till.of (KtA.keep hT hb7)) ?_
      clear hT hK K
      refine Go_.step (i := 1) (o := ⟨some 27, Op.convert 24 9 (Operand.tmp 26), 9, _, _, none⟩) (by kernel_rfl) rfl (fun K hT hK => ?_)
      replace hT := hT.1
      rw [if_pos (by rfl)]
      refine wp_str (l := l5) (.tmp 26) rfl (by rfl) hl5n (by first | exact hB5 | exact hB5.below hb7) ?_
      refine hK.out _ _ (Till.of hT) ?_
      clear hT hK K
      refine Go_.step (i := 3) (o := ⟨some 29, Op.call { callee := Callee.value (Operand.func 37), args := #[Operand.tmp 27, Operand.tmp 28, Operand.const (Value.int IntKind.i64 1)], argTypes := #[9, 26, 3] }, 52, _, _, none⟩) (by kernel_rfl) rfl (fun K hT hK => ?_)
      replace hT := hT.1
      rw [if_pos (by rfl)]
      go_simp
      refine (kt_4 l5 hl5n _).mono ?_
      rintro e w8 ⟨rfl, hb8⟩
      refine hK.out _ _ (Till.of (KtA.keep hT hb8)) ?_
      clear hT hK K
      refine Go_.take (i := 4) (oi := ⟨some 25, Op.move (Operand.tmp 29), 52, _, _, none⟩) (v := ?_) rfl (by kernel_rfl) (by kernel_rfl) (by kernel_rfl) rfl (fun _ _ _ h => h) (Or.inl ⟨by rfl, ?_⟩) ?_
      rotate_left; · intro w0 _; go_simp; try with_reducible rfl
      try simp only [Act.put, List.setIfInBounds_toArray, List.set_cons_zero, List.set_cons_succ]
      refine Go_.take (i := 5) (oi := ⟨some 30, Op.extract (Operand.tmp 25) 0, 28, _, _, none⟩) (v := ?_) rfl (by kernel_rfl) (by kernel_rfl) (by kernel_rfl) rfl (fun _ _ _ h => h) (Or.inl ⟨by rfl, ?_⟩) ?_
      rotate_left; · intro w0 _; go_simp; try with_reducible rfl
      try simp only [Act.put, List.setIfInBounds_toArray, List.set_cons_zero, List.set_cons_succ]
      refine Go_.take (i := 6) (oi := ⟨some 31, Op.extract (Operand.tmp 25) 1, 3, _, _, none⟩) (v := ?_) rfl (by kernel_rfl) (by kernel_rfl) (by kernel_rfl) rfl (fun _ _ _ h => h) (Or.inl ⟨by rfl, ?_⟩) ?_
      rotate_left; · intro w0 _; go_simp; try with_reducible rfl
      try simp only [Act.put, List.setIfInBounds_toArray, List.set_cons_zero, List.set_cons_succ]
      refine Go_.step (i := 8) (o := ⟨none, Op.store 28 (Operand.tmp 8) (Operand.tmp 30), 0, _, _, none⟩) (by kernel_rfl) rfl (fun K hT hK => ?_)
      replace hT := hT.1
      rw [if_pos (by rfl)]
      refine with_holds (t := 28) (by first | exact h7 | exact h7.below hb8 h7.lt | exact (h7.below hb5 h7.lt).below hb8 (h7.below hb5 h7.lt).lt) (fun hh => ?_)
      have z8 := hh.eight
      have zf := hh.eightFree
      clear hh
      go_simp
      refine hK.out _ _ (Till.of (KtA.set hT ⟨hl7.1, by omega, by omega⟩)) ?_
      clear hT hK K
      refine Go_.take (i := 9) (oi := ⟨some 9, Op.assign (Operand.tmp 31), 3, _, _, none⟩) (v := ?_) rfl (by kernel_rfl) (by kernel_rfl) (by kernel_rfl) rfl (fun _ _ _ h => h) (Or.inl ⟨by rfl, ?_⟩) ?_
      rotate_left; · intro w0 _; go_simp; try with_reducible rfl
      try simp only [Act.put, List.setIfInBounds_toArray, List.set_cons_zero, List.set_cons_succ]
      refine Go_.doneA (by kernel_rfl) (fun hA6 => ?_)
      have HS6 := Lib.hid (KtA.keep hA6 (Below.refl _ _).drew)
      clear hA6
      go_wp2_with fail
      refine wp_region_till 27 (fun w' => KtA w g1 g2 k m w') (fun _ => True) (by kernel_rfl) (HS6.out) trivial ?_
      show Go_ _ _ _ _ _ _ _ _ _ _ (World.drew _)
      refine Go_.take (i := 0) (oi := ⟨some 32, Op.move (Operand.tmp 3), 3, _, _, none⟩) (v := ?_) rfl (by kernel_rfl) (by kernel_rfl) (by kernel_rfl) rfl (fun _ _ _ h => h) (Or.inl ⟨by rfl, ?_⟩) ?_
      rotate_left; · intro w0 _; go_simp; try with_reducible rfl
      try simp only [Act.put, List.setIfInBounds_toArray, List.set_cons_zero, List.set_cons_succ]
      refine Go_.take (i := 1) (oi := ⟨some 33, Op.binOp BinOp.eql 3 (Operand.tmp 32) (Operand.const (Value.int IntKind.i64 0)) 3, 4, _, _, none⟩) (v := ?_) rfl (by kernel_rfl) (by kernel_rfl) (by kernel_rfl) rfl (fun _ _ _ h => h) (Or.inl ⟨by rfl, ?_⟩) ?_
      rotate_left; · intro w0 _; go_simp; try with_reducible rfl
      try simp only [Act.put, List.setIfInBounds_toArray, List.set_cons_zero, List.set_cons_succ]
      refine Go_.take (i := 2) (oi := ⟨some 34, Op.move (Operand.tmp 33), 4, _, _, none⟩) (v := ?_) rfl (by kernel_rfl) (by kernel_rfl) (by kernel_rfl) rfl (fun _ _ _ h => h) (Or.inl ⟨by rfl, ?_⟩) ?_
      rotate_left; · intro w0 _; go_simp; try with_reducible rfl
      try simp only [Act.put, List.setIfInBounds_toArray, List.set_cons_zero, List.set_cons_succ]
      refine Go_.take (i := 3) (oi := ⟨some 35, Op.move (Operand.tmp 5), 3, _, _, some (2, true)⟩) (v := ?_) rfl (by kernel_rfl) (by kernel_rfl) (by kernel_rfl) rfl (fun _ _ _ h => h) (Or.inl ⟨by rfl, ?_⟩) ?_
      rotate_left; · intro w0 _; go_simp; try with_reducible rfl
      try simp only [Act.put, List.setIfInBounds_toArray, List.set_cons_zero, List.set_cons_succ]
      refine Go_.take (i := 4) (oi := ⟨some 36, Op.binOp BinOp.eql 3 (Operand.tmp 35) (Operand.const (Value.int IntKind.i64 0)) 3, 4, _, _, some (2, true)⟩) (v := ?_) rfl (by kernel_rfl) (by kernel_rfl) (by kernel_rfl) rfl (fun _ _ _ h => h) (Or.inl ⟨by rfl, ?_⟩) ?_
      rotate_left; · intro w0 _; go_simp; try with_reducible rfl
      try simp only [Act.put, List.setIfInBounds_toArray, List.set_cons_zero, List.set_cons_succ]
      refine Go_.take (i := 5) (oi := ⟨some 37, Op.pick (Operand.tmp 34) (Operand.tmp 36) (Operand.const (Value.bool false)), 4, _, _, none⟩) (v := ?_) rfl (by kernel_rfl) (by kernel_rfl) (by kernel_rfl) rfl (fun _ _ _ h => h) (Or.inl ⟨by rfl, ?_⟩) ?_
      rotate_left; · intro w0 _; go_simp; try with_reducible rfl
      try simp only [Act.put, List.setIfInBounds_toArray, List.set_cons_zero, List.set_cons_succ]
      refine Go_.take (i := 6) (oi := ⟨some 38, Op.move (Operand.tmp 37), 4, _, _, none⟩) (v := ?_) rfl (by kernel_rfl) (by kernel_rfl) (by kernel_rfl) rfl (fun _ _ _ h => h) (Or.inl ⟨by rfl, ?_⟩) ?_
      rotate_left; · intro w0 _; go_simp; try with_reducible rfl
      try simp only [Act.put, List.setIfInBounds_toArray, List.set_cons_zero, List.set_cons_succ]
      refine Go_.take (i := 7) (oi := ⟨some 39, Op.load 28 (Operand.tmp 2), 28, _, _, some (6, true)⟩) (v := ?_) rfl (by kernel_rfl) (by kernel_rfl) (by kernel_rfl) rfl (fun _ _ _ h => h) (Or.inl ⟨by rfl, ?_⟩) ?_
      rotate_left; · intro w0 hS; obtain ⟨hS1, hS2, hS3, hS4⟩ := hS; have h8 := hS2.eight; have h82 := hS3.eight; go_simp; try with_reducible rfl
      try simp only [Act.put, List.setIfInBounds_toArray, List.set_cons_zero, List.set_cons_succ]
      refine Go_.take (i := 8) (oi := ⟨some 40, Op.load 28 (Operand.tmp 4), 28, _, _, some (6, true)⟩) (v := ?_) rfl (by kernel_rfl) (by kernel_rfl) (by kernel_rfl) rfl (fun _ _ _ h => h) (Or.inl ⟨by rfl, ?_⟩) ?_
      rotate_left; · intro w0 hS; obtain ⟨hS1, hS2, hS3, hS4⟩ := hS; have h8 := hS2.eight; have h82 := hS3.eight; go_simp; try with_reducible rfl
      try simp only [Act.put, List.setIfInBounds_toArray, List.set_cons_zero, List.set_cons_succ]
      refine Go_.take (i := 9) (oi := ⟨some 41, Op.binOp BinOp.neq 28 (Operand.tmp 39) (Operand.tmp 40) 28, 4, _, _, some (6, true)⟩) (v := ?_) rfl (by kernel_rfl) (by kernel_rfl) (by kernel_rfl) rfl (fun _ _ _ h => h) (Or.inl ⟨by rfl, ?_⟩) ?_
      rotate_left; · intro w0 _; go_simp; try with_reducible rfl
      try simp only [Act.put, List.setIfInBounds_toArray, List.set_cons_zero, List.set_cons_succ]
      refine Go_.take (i := 10) (oi := ⟨some 42, Op.pick (Operand.tmp 38) (Operand.tmp 41) (Operand.const (Value.bool false)), 4, _, _, none⟩) (v := ?_) rfl (by kernel_rfl) (by kernel_rfl) (by kernel_rfl) rfl (fun _ _ _ h => h) (Or.inl ⟨by rfl, ?_⟩) ?_
      rotate_left; · intro w0 _; go_simp; try with_reducible rfl
      try simp only [Act.put, List.setIfInBounds_toArray, List.set_cons_zero, List.set_cons_succ]
      refine Go_.take (i := 11) (oi := ⟨some 43, Op.move (Operand.tmp 42), 4, _, _, none⟩) (v := ?_) rfl (by kernel_rfl) (by kernel_rfl) (by kernel_rfl) rfl (fun _ _ _ h => h) (Or.inl ⟨by rfl, ?_⟩) ?_
      rotate_left; · intro w0 _; go_simp; try with_reducible rfl
      try simp only [Act.put, List.setIfInBounds_toArray, List.set_cons_zero, List.set_cons_succ]
      refine Go_.take (i := 12) (oi := ⟨some 44, Op.move (Operand.tmp 7), 3, _, _, some (11, true)⟩) (v := ?_) rfl (by kernel_rfl) (by kernel_rfl) (by kernel_rfl) rfl (fun _ _ _ h => h) (Or.inl ⟨by rfl, ?_⟩) ?_
      rotate_left; · intro w0 _; go_simp; try with_reducible rfl
      try simp only [Act.put, List.setIfInBounds_toArray, List.set_cons_zero, List.set_cons_succ]
      refine Go_.take (i := 13) (oi := ⟨some 45, Op.binOp BinOp.eql 3 (Operand.tmp 44) (Operand.const (Value.int IntKind.i64 1)) 3, 4, _, _, some (11, true)⟩) (v := ?_) rfl (by kernel_rfl) (by kernel_rfl) (by kernel_rfl) rfl (fun _ _ _ h => h) (Or.inl ⟨by rfl, ?_⟩) ?_
      rotate_left; · intro w0 _; go_simp; try with_reducible rfl
      try simp only [Act.put, List.setIfInBounds_toArray, List.set_cons_zero, List.set_cons_succ]
      refine Go_.take (i := 14) (oi := ⟨some 46, Op.pick (Operand.tmp 43) (Operand.tmp 45) (Operand.const (Value.bool false)), 4, _, _, none⟩) (v := ?_) rfl (by kernel_rfl) (by kernel_rfl) (by kernel_rfl) rfl (fun _ _ _ h => h) (Or.inl ⟨by rfl, ?_⟩) ?_
      rotate_left; · intro w0 _; go_simp; try with_reducible rfl
      try simp only [Act.put, List.setIfInBounds_toArray, List.set_cons_zero, List.set_cons_succ]
      refine Go_.take (i := 15) (oi := ⟨some 47, Op.move (Operand.tmp 46), 4, _, _, none⟩) (v := ?_) rfl (by kernel_rfl) (by kernel_rfl) (by kernel_rfl) rfl (fun _ _ _ h => h) (Or.inl ⟨by rfl, ?_⟩) ?_
      rotate_left; · intro w0 _; go_simp; try with_reducible rfl
      try simp only [Act.put, List.setIfInBounds_toArray, List.set_cons_zero, List.set_cons_succ]
      refine Go_.take (i := 16) (oi := ⟨some 48, Op.move (Operand.tmp 9), 3, _, _, some (15, true)⟩) (v := ?_) rfl (by kernel_rfl) (by kernel_rfl) (by kernel_rfl) rfl (fun _ _ _ h => h) (Or.inl ⟨by rfl, ?_⟩) ?_
      rotate_left; · intro w0 _; go_simp; try with_reducible rfl
      try simp only [Act.put, List.setIfInBounds_toArray, List.set_cons_zero, List.set_cons_succ]
      refine Go_.take (i := 17) (oi := ⟨some 49, Op.binOp BinOp.eql 3 (Operand.tmp 48) (Operand.const (Value.int IntKind.i64 1)) 3, 4, _, _, some (15, true)⟩) (v := ?_) rfl (by kernel_rfl) (by kernel_rfl) (by kernel_rfl) rfl (fun _ _ _ h => h) (Or.inl ⟨by rfl, ?_⟩) ?_
      rotate_left; · intro w0 _; go_simp; try with_reducible rfl
      try simp only [Act.put, List.setIfInBounds_toArray, List.set_cons_zero, List.set_cons_succ]
      refine Go_.take (i := 18) (oi := ⟨some 50, Op.pick (Operand.tmp 47) (Operand.tmp 49) (Operand.const (Value.bool false)), 4, _, _, none⟩) (v := ?_) rfl (by kernel_rfl) (by kernel_rfl) (by kernel_rfl) rfl (fun _ _ _ h => h) (Or.inl ⟨by rfl, ?_⟩) ?_
      rotate_left; · intro w0 _; go_simp; try with_reducible rfl
      try simp only [Act.put, List.setIfInBounds_toArray, List.set_cons_zero, List.set_cons_succ]
      refine Go_.take (i := 19) (oi := ⟨some 51, Op.move (Operand.tmp 50), 4, _, _, none⟩) (v := ?_) rfl (by kernel_rfl) (by kernel_rfl) (by kernel_rfl) rfl (fun _ _ _ h => h) (Or.inl ⟨by rfl, ?_⟩) ?_
      rotate_left; · intro w0 _; go_simp; try with_reducible rfl
      try simp only [Act.put, List.setIfInBounds_toArray, List.set_cons_zero, List.set_cons_succ]
      refine Go_.take (i := 20) (oi := ⟨some 52, Op.load 28 (Operand.tmp 2), 28, _, _, some (19, true)⟩) (v := ?_) rfl (by kernel_rfl) (by kernel_rfl) (by kernel_rfl) rfl (fun _ _ _ h => h) (Or.inl ⟨by rfl, ?_⟩) ?_
      rotate_left; · intro w0 hS; obtain ⟨hS1, hS2, hS3, hS4⟩ := hS; have h8 := hS2.eight; have h82 := hS3.eight; go_simp; try with_reducible rfl
      try simp only [Act.put, List.setIfInBounds_toArray, List.set_cons_zero, List.set_cons_succ]
      refine Go_.take (i := 22) (oi := ⟨some 54, Op.load 28 (Operand.tmp 2), 28, _, _, some (19, true)⟩) (v := ?_) rfl (by kernel_rfl) (by kernel_rfl) (by kernel_rfl) rfl (fun _ _ _ h => h) (Or.inl ⟨by rfl, ?_⟩) ?_
      rotate_left; · intro w0 hS; obtain ⟨hS1, hS2, hS3, hS4⟩ := hS; have h8 := hS2.eight; have h82 := hS3.eight; go_simp; try with_reducible rfl
      try simp only [Act.put, List.setIfInBounds_toArray, List.set_cons_zero, List.set_cons_succ]
      refine Go_.step (i := 21) (o := ⟨some 53, Op.call { callee := Callee.value (Operand.func 39), args := #[Operand.tmp 52], argTypes := #[28] }, 26, _, _, some (19, true)⟩) (by kernel_rfl) rfl (fun K hT hK => ?_)
      replace hT := hT.1
      rw [if_pos (by rfl)]
      go_simp
      refine (kt_check k _ _ _ _ _ _ _ _ hTT _).mono ?_
      rintro e w' ⟨rfl, hbx⟩
      refine hK.out _ _ (Till.of (KtA.keep hT hbx)) ?_
      clear hT hK K
      refine Go_.step (i := 23) (o := ⟨some 55, Op.call { callee := Callee.value (Operand.func 39), args := #[Operand.tmp 54], argTypes := #[28] }, 26, _, _, some (19, true)⟩) (by kernel_rfl) rfl (fun K hT hK => ?_)
      replace hT := hT.1
      rw [if_pos (by rfl)]
      go_simp
      refine (kt_check k _ _ _ _ _ _ _ _ hTT _).mono ?_
      rintro e w' ⟨rfl, hbx⟩
      have hfin := (KtA.keep hT hbx).2.2.2
      refine hK.out _ _ (Till.of (KtA.keep hT hbx)) ?_
      clear hT hK K
      refine Go_.take (i := 24) (oi := ⟨some 56, Op.binOp BinOp.eql 26 (Operand.tmp 53) (Operand.tmp 55) 26, 4, _, _, some (19, true)⟩) (v := ?_) rfl (by kernel_rfl) (by kernel_rfl) (by kernel_rfl) rfl (fun _ _ _ h => h) (Or.inl ⟨by rfl, ?_⟩) ?_
      rotate_left; · intro w0 _; go_simp; try with_reducible rfl
      try simp only [Act.put, List.setIfInBounds_toArray, List.set_cons_zero, List.set_cons_succ]
      refine Go_.take (i := 25) (oi := ⟨some 57, Op.pick (Operand.tmp 51) (Operand.tmp 56) (Operand.const (Value.bool false)), 4, _, _, none⟩) (v := ?_) rfl (by kernel_rfl) (by kernel_rfl) (by kernel_rfl) rfl (fun _ _ _ h => h) (Or.inl ⟨by rfl, ?_⟩) ?_
      rotate_left; · intro w0 _; go_simp; try with_reducible rfl
      try simp only [Act.put, List.setIfInBounds_toArray, List.set_cons_zero, List.set_cons_succ]
      refine Go_.take (i := 26) (oi := ⟨some 0, Op.assign (Operand.tmp 57), 4, _, _, none⟩) (v := ?_) rfl (by kernel_rfl) (by kernel_rfl) (by kernel_rfl) rfl (fun _ _ _ h => h) (Or.inl ⟨by rfl, ?_⟩) ?_
      rotate_left; · intro w0 _; go_simp; try with_reducible rfl
      try simp only [Act.put, List.setIfInBounds_toArray, List.set_cons_zero]
      refine Go_.done (by kernel_rfl) ?_
      go_wp2
      go_ret
      exact ⟨ret_boolK (by simp), hfin⟩
  · replace hT := hT.1
    rw [if_pos (by rfl)]
    refine wp_al rfl ?_
    intro w7 h7 hb7
    have hl7 := And.intro hT.1.lt (And.intro hT.2.1.lt hT.2.2.1.lt)
    first | (change Holds w7 wq.heap.size 28 _ at h7; change w.heap.size < wq.heap.size ∧ g1 < wq.heap.size ∧ g2 < wq.heap.size at hl7) | skip
    refine hK.out _ _ (Till.of (KtA.keep hT hb7)) ?_
    clear hT hK K
    refine Go_.step (i := 0) (o := ⟨some 26, Op.makeSlice 24 (Operand.const (Value.int IntKind.i64 101)) (Operand.const (Value.int IntKind.i64 101)), 24, _, _, none⟩) (by kernel_rfl) rfl (fun K hT hK => ?_)
    replace hT := hT.1
    rw [if_pos (by rfl)]
    refine wp_mk (.const (.int .i64 101)) (.const (.int .i64 101)) rfl (by rfl) (by rfl) (by decide) ?_
    intro w5 hB5 hb5
    rw [← hl5.out] at hB5
    refine hK.out _ _ (Till.of (KtA.keep hT hb5)) ?_
    clear hT hK K
    refine Go_.step (i := 1) (o := ⟨some 27, Op.convert 24 9 (Operand.tmp 26), 9, _, _, none⟩) (by kernel_rfl) rfl (fun K hT hK => ?_)
    replace hT := hT.1
    rw [if_pos (by rfl)]
    refine wp_str (l := l5) (.tmp 26) rfl (by rfl) hl5n (by first | exact hB5 | exact hB5.below hb7) ?_
    refine hK.out _ _ (Till.of hT) ?_
    clear hT hK K
    refine Go_.step (i := 3) (o := ⟨some 29, Op.call { callee := Callee.value (Operand.func 37), args := #[Operand.tmp 27, Operand.tmp 28, Operand.const (Value.int IntKind.i64 1)], argTypes := #[9, 26, 3] }, 52, _, _, none⟩) (by kernel_rfl) rfl (fun K hT hK => ?_)
    replace hT := hT.1
    rw [if_pos (by rfl)]
    go_simp
    refine (kt_4 l5 hl5n _).mono ?_
    rintro e w8 ⟨rfl, hb8⟩
    refine hK.out _ _ (Till.of (KtA.keep hT hb8)) ?_
    clear hT hK K
    refine Go_.take (i := 4) (oi := ⟨some 25, Op.move (Operand.tmp 29), 52, _, _, none⟩) (v := ?_) rfl (by kernel_rfl) (by kernel_rfl) (by kernel_rfl) rfl (fun _ _ _ h => h) (Or.inl ⟨by rfl, ?_⟩) ?_
    rotate_left; · intro w0 _; go_simp; try with_reducible rfl
    try simp only [Act.put, List.setIfInBounds_toArray, List.set_cons_zero, List.set_cons_succ]
    refine Go_.take (i := 5) (oi := ⟨some 30, Op.extract (Operand.tmp 25) 0, 28, _, _, none⟩) (v := ?_) rfl (by kernel_rfl) (by kernel_rfl) (by kernel_rfl) rfl (fun _ _ _ h => h) (Or.inl ⟨by rfl, ?_⟩) ?_
    rotate_left; · intro w0 _; go_simp; try with_reducible rfl
    try simp only [Act.put, List.setIfInBounds_toArray, List.set_cons_zero, List.set_cons_succ]
    refine Go_.take (i := 6) (oi := ⟨some 31, Op.extract (Operand.tmp 25) 1, 3, _, _, none⟩) (v := ?_) rfl (by kernel_rfl) (by kernel_rfl) (by kernel_rfl) rfl (fun _ _ _ h => h) (Or.inl ⟨by rfl, ?_⟩) ?_
    rotate_left; · intro w0 _; go_simp; try with_reducible rfl
    try simp only [Act.put, List.setIfInBounds_toArray, List.set_cons_zero, List.set_cons_succ]
    refine Go_.step (i := 8) (o := ⟨none, Op.store 28 (Operand.tmp 8) (Operand.tmp 30), 0, _, _, none⟩) (by kernel_rfl) rfl (fun K hT hK => ?_)
    replace hT := hT.1
    rw [if_pos (by rfl)]
    refine with_holds (t := 28) (by first | exact h7 | exact h7.below hb8 h7.lt | exact (h7.below hb5 h7.lt).below hb8 (h7.below hb5 h7.lt).lt) (fun hh => ?_)
    have z8 := hh.eight
    have zf := hh.eightFree
    clear hh
    go_simp
    refine hK.out _ _ (Till.of (KtA.set hT ⟨hl7.1, by omega, by omega⟩)) ?_
    clear hT hK K
    refine Go_.take (i := 9) (oi := ⟨some 9, Op.assign (Operand.tmp 31), 3, _, _, none⟩) (v := ?_) rfl (by kernel_rfl) (by kernel_rfl) (by kernel_rfl) rfl (fun _ _ _ h => h) (Or.inl ⟨by rfl, ?_⟩) ?_
    rotate_left; · intro w0 _; go_simp; try with_reducible rfl
    try simp only [Act.put, List.setIfInBounds_toArray, List.set_cons_zero, List.set_cons_succ]
    refine Go_.doneA (by kernel_rfl) (fun hA6 => ?_)
    have HS6 := Lib.hid (KtA.keep hA6 (Below.refl _ _).drew)
    clear hA6
    go_wp2_with fail
    refine wp_region_till 27 (fun w' => KtA w g1 g2 k m w') (fun _ => True) (by kernel_rfl) (HS6.out) trivial ?_
    show Go_ _ _ _ _ _ _ _ _ _ _ (World.drew _)
    refine Go_.take (i := 0) (oi := ⟨some 32, Op.move (Operand.tmp 3), 3, _, _, none⟩) (v := ?_) rfl (by kernel_rfl) (by kernel_rfl) (by kernel_rfl) rfl (fun _ _ _ h => h) (Or.inl ⟨by rfl, ?_⟩) ?_
    rotate_left; · intro w0 _; go_simp; try with_reducible rfl
    try simp only [Act.put, List.setIfInBounds_toArray, List.set_cons_zero, List.set_cons_succ]
    refine Go_.take (i := 1) (oi := ⟨some 33, Op.binOp BinOp.eql 3 (Operand.tmp 32) (Operand.const (Value.int IntKind.i64 0)) 3, 4, _, _, none⟩) (v := ?_) rfl (by kernel_rfl) (by kernel_rfl) (by kernel_rfl) rfl (fun _ _ _ h => h) (Or.inl ⟨by rfl, ?_⟩) ?_
    rotate_left; · intro w0 _; go_simp; try with_reducible rfl
    try simp only [Act.put, List.setIfInBounds_toArray, List.set_cons_zero, List.set_cons_succ]
    refine Go_.take (i := 2) (oi := ⟨some 34, Op.move (Operand.tmp 33), 4, _, _, none⟩) (v := ?_) rfl (by kernel_rfl) (by kernel_rfl) (by kernel_rfl) rfl (fun _ _ _ h => h) (Or.inl ⟨by rfl, ?_⟩) ?_
    rotate_left; · intro w0 _; go_simp; try with_reducible rfl
    try simp only [Act.put, List.setIfInBounds_toArray, List.set_cons_zero, List.set_cons_succ]
    refine Go_.take (i := 3) (oi := ⟨some 35, Op.move (Operand.tmp 5), 3, _, _, some (2, true)⟩) (v := ?_) rfl (by kernel_rfl) (by kernel_rfl) (by kernel_rfl) rfl (fun _ _ _ h => h) (Or.inl ⟨by rfl, ?_⟩) ?_
    rotate_left; · intro w0 _; go_simp; try with_reducible rfl
    try simp only [Act.put, List.setIfInBounds_toArray, List.set_cons_zero, List.set_cons_succ]
    refine Go_.take (i := 4) (oi := ⟨some 36, Op.binOp BinOp.eql 3 (Operand.tmp 35) (Operand.const (Value.int IntKind.i64 0)) 3, 4, _, _, some (2, true)⟩) (v := ?_) rfl (by kernel_rfl) (by kernel_rfl) (by kernel_rfl) rfl (fun _ _ _ h => h) (Or.inl ⟨by rfl, ?_⟩) ?_
    rotate_left; · intro w0 _; go_simp; try with_reducible rfl
    try simp only [Act.put, List.setIfInBounds_toArray, List.set_cons_zero, List.set_cons_succ]
    refine Go_.take (i := 5) (oi := ⟨some 37, Op.pick (Operand.tmp 34) (Operand.tmp 36) (Operand.const (Value.bool false)), 4, _, _, none⟩) (v := ?_) rfl (by kernel_rfl) (by kernel_rfl) (by kernel_rfl) rfl (fun _ _ _ h => h) (Or.inl ⟨by rfl, ?_⟩) ?_
    rotate_left; · intro w0 _; go_simp; try with_reducible rfl
    try simp only [Act.put, List.setIfInBounds_toArray, List.set_cons_zero, List.set_cons_succ]
    refine Go_.take (i := 6) (oi := ⟨some 38, Op.move (Operand.tmp 37), 4, _, _, none⟩) (v := ?_) rfl (by kernel_rfl) (by kernel_rfl) (by kernel_rfl) rfl (fun _ _ _ h => h) (Or.inl ⟨by rfl, ?_⟩) ?_
    rotate_left; · intro w0 _; go_simp; try with_reducible rfl
    try simp only [Act.put, List.setIfInBounds_toArray, List.set_cons_zero, List.set_cons_succ]
    refine Go_.take (i := 7) (oi := ⟨some 39, Op.load 28 (Operand.tmp 2), 28, _, _, some (6, true)⟩) (v := ?_) rfl (by kernel_rfl) (by kernel_rfl) (by kernel_rfl) rfl (fun _ _ _ h => h) (Or.inl ⟨by rfl, ?_⟩) ?_
    rotate_left; · intro w0 hS; obtain ⟨hS1, hS2, hS3, hS4⟩ := hS; have h8 := hS2.eight; have h82 := hS3.eight; go_simp; try with_reducible rfl
    try simp only [Act.put, List.setIfInBounds_toArray, List.set_cons_zero, List.set_cons_succ]
    refine Go_.take (i := 8) (oi := ⟨some 40, Op.load 28 (Operand.tmp 4), 28, _, _, some (6, true)⟩) (v := ?_) rfl (by kernel_rfl) (by kernel_rfl) (by kernel_rfl) rfl (fun _ _ _ h => h) (Or.inl ⟨by rfl, ?_⟩) ?_
    rotate_left; · intro w0 hS; obtain ⟨hS1, hS2, hS3, hS4⟩ := hS; have h8 := hS2.eight; have h82 := hS3.eight; go_simp; try with_reducible rfl
    try simp only [Act.put, List.setIfInBounds_toArray, List.set_cons_zero, List.set_cons_succ]
    refine Go_.take (i := 9) (oi := ⟨some 41, Op.binOp BinOp.neq 28 (Operand.tmp 39) (Operand.tmp 40) 28, 4, _, _, some (6, true)⟩) (v := ?_) rfl (by kernel_rfl) (by kernel_rfl) (by kernel_rfl) rfl (fun _ _ _ h => h) (Or.inl ⟨by rfl, ?_⟩) ?_
    rotate_left; · intro w0 _; go_simp; try with_reducible rfl
    try simp only [Act.put, List.setIfInBounds_toArray, List.set_cons_zero, List.set_cons_succ]
    refine Go_.take (i := 10) (oi := ⟨some 42, Op.pick (Operand.tmp 38) (Operand.tmp 41) (Operand.const (Value.bool false)), 4, _, _, none⟩) (v := ?_) rfl (by kernel_rfl) (by kernel_rfl) (by kernel_rfl) rfl (fun _ _ _ h => h) (Or.inl ⟨by rfl, ?_⟩) ?_
    rotate_left; · intro w0 _; go_simp; try with_reducible rfl
    try simp only [Act.put, List.setIfInBounds_toArray, List.set_cons_zero, List.set_cons_succ]
    refine Go_.take (i := 11) (oi := ⟨some 43, Op.move (Operand.tmp 42), 4, _, _, none⟩) (v := ?_) rfl (by kernel_rfl) (by kernel_rfl) (by kernel_rfl) rfl (fun _ _ _ h => h) (Or.inl ⟨by rfl, ?_⟩) ?_
    rotate_left; · intro w0 _; go_simp; try with_reducible rfl
    try simp only [Act.put, List.setIfInBounds_toArray, List.set_cons_zero, List.set_cons_succ]
    refine Go_.take (i := 12) (oi := ⟨some 44, Op.move (Operand.tmp 7), 3, _, _, some (11, true)⟩) (v := ?_) rfl (by kernel_rfl) (by kernel_rfl) (by kernel_rfl) rfl (fun _ _ _ h => h) (Or.inl ⟨by rfl, ?_⟩) ?_
    rotate_left; · intro w0 _; go_simp; try with_reducible rfl
    try simp only [Act.put, List.setIfInBounds_toArray, List.set_cons_zero, List.set_cons_succ]
    refine Go_.take (i := 13) (oi := ⟨some 45, Op.binOp BinOp.eql 3 (Operand.tmp 44) (Operand.const (Value.int IntKind.i64 1)) 3, 4, _, _, some (11, true)⟩) (v := ?_) rfl (by kernel_rfl) (by kernel_rfl) (by kernel_rfl) rfl (fun _ _ _ h => h) (Or.inl ⟨by rfl, ?_⟩) ?_
    rotate_left; · intro w0 _; go_simp; try with_reducible rfl
    try simp only [Act.put, List.setIfInBounds_toArray, List.set_cons_zero, List.set_cons_succ]
    refine Go_.take (i := 14) (oi := ⟨some 46, Op.pick (Operand.tmp 43) (Operand.tmp 45) (Operand.const (Value.bool false)), 4, _, _, none⟩) (v := ?_) rfl (by kernel_rfl) (by kernel_rfl) (by kernel_rfl) rfl (fun _ _ _ h => h) (Or.inl ⟨by rfl, ?_⟩) ?_
    rotate_left; · intro w0 _; go_simp; try with_reducible rfl
    try simp only [Act.put, List.setIfInBounds_toArray, List.set_cons_zero, List.set_cons_succ]
    refine Go_.take (i := 15) (oi := ⟨some 47, Op.move (Operand.tmp 46), 4, _, _, none⟩) (v := ?_) rfl (by kernel_rfl) (by kernel_rfl) (by kernel_rfl) rfl (fun _ _ _ h => h) (Or.inl ⟨by rfl, ?_⟩) ?_
    rotate_left; · intro w0 _; go_simp; try with_reducible rfl
    try simp only [Act.put, List.setIfInBounds_toArray, List.set_cons_zero, List.set_cons_succ]
    refine Go_.take (i := 16) (oi := ⟨some 48, Op.move (Operand.tmp 9), 3, _, _, some (15, true)⟩) (v := ?_) rfl (by kernel_rfl) (by kernel_rfl) (by kernel_rfl) rfl (fun _ _ _ h => h) (Or.inl ⟨by rfl, ?_⟩) ?_
    rotate_left; · intro w0 _; go_simp; try with_reducible rfl
    try simp only [Act.put, List.setIfInBounds_toArray, List.set_cons_zero, List.set_cons_succ]
    refine Go_.take (i := 17) (oi := ⟨some 49, Op.binOp BinOp.eql 3 (Operand.tmp 48) (Operand.const (Value.int IntKind.i64 1)) 3, 4, _, _, some (15, true)⟩) (v := ?_) rfl (by kernel_rfl) (by kernel_rfl) (by kernel_rfl) rfl (fun _ _ _ h => h) (Or.inl ⟨by rfl, ?_⟩) ?_
    rotate_left; · intro w0 _; go_simp; try with_reducible rfl
    try simp only [Act.put, List.setIfInBounds_toArray, List.set_cons_zero, List.set_cons_succ]
    refine Go_.take (i := 18) (oi := ⟨some 50, Op.pick (Operand.tmp 47) (Operand.tmp 49) (Operand.const (Value.bool false)), 4, _, _, none⟩) (v := ?_) rfl (by kernel_rfl) (by kernel_rfl) (by kernel_rfl) rfl (fun _ _ _ h => h) (Or.inl ⟨by rfl, ?_⟩) ?_
    rotate_left; · intro w0 _; go_simp; try with_reducible rfl
    try simp only [Act.put, List.setIfInBounds_toArray, List.set_cons_zero, List.set_cons_succ]
    refine Go_.take (i := 19) (oi := ⟨some 51, Op.move (Operand.tmp 50), 4, _, _, none⟩) (v := ?_) rfl (by kernel_rfl) (by kernel_rfl) (by kernel_rfl) rfl (fun _ _ _ h => h) (Or.inl ⟨by rfl, ?_⟩) ?_
    rotate_left; · intro w0 _; go_simp; try with_reducible rfl
    try simp only [Act.put, List.setIfInBounds_toArray, List.set_cons_zero, List.set_cons_succ]
    refine Go_.take (i := 20) (oi := ⟨some 52, Op.load 28 (Operand.tmp 2), 28, _, _, some (19, true)⟩) (v := ?_) rfl (by kernel_rfl) (by kernel_rfl) (by kernel_rfl) rfl (fun _ _ _ h => h) (Or.inl ⟨by rfl, ?_⟩) ?_
    rotate_left; · intro w0 hS; obtain ⟨hS1, hS2, hS3, hS4⟩ := hS; have h8 := hS2.eight; have h82 := hS3.eight; go_simp; try with_reducible rfl
    try simp only [Act.put, List.setIfInBounds_toArray, List.set_cons_zero, List.set_cons_succ]
    refine Go_.take (i := 22) (oi := ⟨some 54, Op.load 28 (Operand.tmp 2), 28, _, _, some (19, true)⟩) (v := ?_) rfl (by kernel_rfl) (by kernel_rfl) (by kernel_rfl) rfl (fun _ _ _ h => h) (Or.inl ⟨by rfl, ?_⟩) ?_
    rotate_left; · intro w0 hS; obtain ⟨hS1, hS2, hS3, hS4⟩ := hS; have h8 := hS2.eight; have h82 := hS3.eight; go_simp; try with_reducible rfl
    try simp only [Act.put, List.setIfInBounds_toArray, List.set_cons_zero, List.set_cons_succ]
    refine Go_.step (i := 21) (o := ⟨some 53, Op.call { callee := Callee.value (Operand.func 39), args := #[Operand.tmp 52], argTypes := #[28] }, 26, _, _, some (19, true)⟩) (by kernel_rfl) rfl (fun K hT hK => ?_)
    replace hT := hT.1
    rw [if_pos (by rfl)]
    go_simp
    refine (kt_check k _ _ _ _ _ _ _ _ hTT _).mono ?_
    rintro e w' ⟨rfl, hbx⟩
    refine hK.out _ _ (Till.of (KtA.keep hT hbx)) ?_
    clear hT hK K
    refine Go_.step (i := 23) (o := ⟨some 55, Op.call { callee := Callee.value (Operand.func 39), args := #[Operand.tmp 54], argTypes := #[28] }, 26, _, _, some (19, true)⟩) (by kernel_rfl) rfl (fun K hT hK => ?_)
    replace hT := hT.1
    rw [if_pos (by rfl)]
    go_simp
    refine (kt_check k _ _ _ _ _ _ _ _ hTT _).mono ?_
    rintro e w' ⟨rfl, hbx⟩
    have hfin := (KtA.keep hT hbx).2.2.2
    refine hK.out _ _ (Till.of (KtA.keep hT hbx)) ?_
    clear hT hK K
    refine Go_.take (i := 24) (oi := ⟨some 56, Op.binOp BinOp.eql 26 (Operand.tmp 53) (Operand.tmp 55) 26, 4, _, _, some (19, true)⟩) (v := ?_) rfl (by kernel_rfl) (by kernel_rfl) (by kernel_rfl) rfl (fun _ _ _ h => h) (Or.inl ⟨by rfl, ?_⟩) ?_
    rotate_left; · intro w0 _; go_simp; try with_reducible rfl
    try simp only [Act.put, List.setIfInBounds_toArray, List.set_cons_zero, List.set_cons_succ]
    refine Go_.take (i := 25) (oi := ⟨some 57, Op.pick (Operand.tmp 51) (Operand.tmp 56) (Operand.const (Value.bool false)), 4, _, _, none⟩) (v := ?_) rfl (by kernel_rfl) (by kernel_rfl) (by kernel_rfl) rfl (fun _ _ _ h => h) (Or.inl ⟨by rfl, ?_⟩) ?_
    rotate_left; · intro w0 _; go_simp; try with_reducible rfl
    try simp only [Act.put, List.setIfInBounds_toArray, List.set_cons_zero, List.set_cons_succ]
    refine Go_.take (i := 26) (oi := ⟨some 0, Op.assign (Operand.tmp 57), 4, _, _, none⟩) (v := ?_) rfl (by kernel_rfl) (by kernel_rfl) (by kernel_rfl) rfl (fun _ _ _ h => h) (Or.inl ⟨by rfl, ?_⟩) ?_
    rotate_left; · intro w0 _; go_simp; try with_reducible rfl
    try simp only [Act.put, List.setIfInBounds_toArray, List.set_cons_zero]
    refine Go_.done (by kernel_rfl) ?_
    go_wp2
    go_ret
    exact ⟨ret_boolK (by simp), hfin⟩
end Go.Proofs.Ytcdklmicbbcknaa
