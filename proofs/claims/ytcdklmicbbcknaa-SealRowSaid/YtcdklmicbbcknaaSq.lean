/-
  Segments as values; rows of segments of the call's own; append.
-/
import Derived.Test.YtcdklmicbbcknaaBy
namespace Go.Proofs.Ytcdklmicbbcknaa
open Go Go.RowKit
/-- a segment as a value of the program: its parts, and where its bytes stand -/
structure SegV where
  (kind place : Int) (last : Bool) (A : Option Addr) (body : List UInt8) (c : Nat)
def SegV.cells (s : SegV) : List Value := [.int .i64 s.kind, .int .i64 s.place, .bool s.last, .slice s.A s.body.length s.c]
def segCells (l : List SegV) : List Value := l.flatMap SegV.cells
theorem segCells_len (l : List SegV) : (segCells l).length = l.length * 4 := by
  induction l with
  | nil => rfl
  | cons s l ih => simp only [segCells, List.flatMap_cons, List.length_append, List.length_cons] at *; rw [ih]; simp [SegV.cells]; omega
theorem segCells_app (l m : List SegV) : segCells (l ++ m) = segCells l ++ segCells m := by simp [segCells]
theorem segCells_one (s : SegV) : segCells [s] = s.cells := by simp [segCells]
theorem segCells_oneCell (l : List SegV) : ∀ u ∈ segCells l, u.oneCell' = true := fun u hu => by
  obtain ⟨s, _, hs⟩ := List.mem_flatMap.1 hu
  simp only [SegV.cells, List.mem_cons, List.not_mem_nil, or_false] at hs
  rcases hs with rfl | rfl | rfl | rfl <;> rfl
theorem segCells_get : ∀ (l : List SegV) (j : Nat) (hj : j < l.length) (q : Nat), q < 4 → (segCells l)[4 * j + q]? = (l[j].cells)[q]?
  | [], j, hj, _, _ => absurd hj (by simp)
  | s :: l, 0, _, q, hq => by
    simp only [segCells, List.flatMap_cons, Nat.mul_zero, Nat.zero_add, List.getElem_cons_zero]
    rw [List.getElem?_append_left (by simp [SegV.cells]; exact hq)]
  | s :: l, j + 1, hj, q, hq => by
    have ih := segCells_get l j (by simpa using hj) q hq
    simp only [segCells, List.flatMap_cons, List.getElem_cons_succ] at ih ⊢
    rw [List.getElem?_append_right (by simp [SegV.cells]; omega)]
    rw [← ih]; congr 1; simp [SegV.cells]; omega
/-- memory where the segments' cells are read, anywhere -/
def Sgs (w : World) (A : Option Addr) (l : List SegV) : Prop :=
  0 < l.length → ∃ b o, A = some ⟨b, o, none⟩ ∧ b < w.heap.size ∧ ∀ j u, (segCells l)[j]? = some u → w.cell? ⟨b, o + j, none⟩ = some u
theorem Sgs.below {w w' : World} {A : Option Addr} {l : List SegV} (h : Sgs w A l) (hb : Below w.heap.size w w') : Sgs w' A l := fun h0 => by
  obtain ⟨b, o, e, hlt, hc⟩ := h h0
  exact ⟨b, o, e, Nat.lt_of_lt_of_le hlt hb.size, fun j u hu => (hb.cell (p := ⟨b, o + j, none⟩) hlt).trans (hc j u hu)⟩
/-- the cells of one of them -/
theorem Sgs.at {w : World} {A : Option Addr} {l : List SegV} (h : Sgs w A l) (j : Nat) (hj : j < l.length) : ∃ b o, A = some ⟨b, o, none⟩ ∧ b < w.heap.size ∧
    w.cell? ⟨b, o + 4 * j, none⟩ = some (.int .i64 l[j].kind) ∧ w.cell? ⟨b, o + 4 * j + 1, none⟩ = some (.int .i64 l[j].place) ∧ w.cell? ⟨b, o + 4 * j + 2, none⟩ = some (.bool l[j].last) ∧ w.cell? ⟨b, o + 4 * j + 3, none⟩ = some (.slice l[j].A l[j].body.length l[j].c) := by
  obtain ⟨b, o, e, hlt, hc⟩ := h (by omega)
  refine ⟨b, o, e, hlt, ?_, ?_, ?_, ?_⟩
  · exact hc (4 * j + 0) _ (segCells_get l j hj 0 (by omega))
  · exact hc (4 * j + 1) _ (segCells_get l j hj 1 (by omega))
  · exact hc (4 * j + 2) _ (segCells_get l j hj 2 (by omega))
  · exact hc (4 * j + 3) _ (segCells_get l j hj 3 (by omega))
theorem Sgs.part {w : World} {A : Option Addr} {l : List SegV} {b o : Nat} (h : Sgs w A l) (hA : A = some ⟨b, o, none⟩) (i n : Nat) (hi : i + n ≤ l.length) : Sgs w (some ⟨b, o + 4 * i, none⟩) ((l.drop i).take n) := fun h0 => by
  rw [List.length_take, List.length_drop] at h0
  obtain ⟨b', o', e, hlt, hc⟩ := h (by omega)
  rw [hA] at e
  injection e with e
  injection e with e1 e2
  subst e1 e2
  refine ⟨b, _, rfl, hlt, fun j u hu => ?_⟩
  rw [Nat.add_assoc]
  refine hc _ _ ?_
  have e1 : segCells l = segCells (l.take i) ++ (segCells ((l.drop i).take n) ++ segCells ((l.drop i).drop n)) := by
    rw [← segCells_app, List.take_append_drop, ← segCells_app, List.take_append_drop]
  have hj : j < (segCells ((l.drop i).take n)).length := by
    rcases Nat.lt_or_ge j (segCells ((l.drop i).take n)).length with h | h
    · exact h
    · rw [List.getElem?_eq_none h] at hu; cases hu
  rw [e1, List.getElem?_append_right (by rw [segCells_len, List.length_take]; omega), List.getElem?_append_left (by rw [segCells_len, List.length_take, Nat.min_eq_left (by omega)]; omega), ← hu]
  congr 1
  rw [segCells_len, List.length_take, Nat.min_eq_left (by omega)]; omega
theorem info81 : (Try.prog.info? 81).map (fun i => (i.zero, i.size, i.bytes)) = some (some (.agg #[.int .i64 0, .int .i64 0, .bool false, .slice none 0 0]), 4, 48) := by kernel_rfl
/-- a row of segments of the call's own -/
def OwnS (w : World) (base : Nat) (A : Option Addr) (c : Nat) (l : List SegV) : Prop := w.ownsRow base 81 4 (.slice A l.length c) l.length (segCells l)
section
variable {w w' : World} {base : Nat} {A : Option Addr} {c : Nat} {l m : List SegV}
theorem OwnS.nil (w : World) (base : Nat) : OwnS w base none 0 [] := World.ownsRow_nil w base 81 4
theorem OwnS.sgs (h : OwnS w base A c l) : Sgs w A l := fun h0 => by
  rcases h.2 with ⟨_, h1⟩ | ⟨g, cap, cur, hv, _, hh, hn, _, hcs, ht⟩
  · omega
  · injection hv with hA _ _
    subst hA
    refine ⟨g, 0, rfl, ?_, fun j u hu => ?_⟩
    · rcases Nat.lt_or_ge g w.heap.size with hl | hl
      · exact hl
      · rw [Array.getElem?_eq_none hl] at hh; cases hh
    · rw [Nat.zero_add]
      have hj : j < l.length * 4 := by
        rw [← segCells_len]
        rcases Nat.lt_or_ge j (segCells l).length with h | h
        · exact h
        · rw [List.getElem?_eq_none h] at hu; cases hu
      have hc := cell_of_row w g j cur 81 (0, 0) hh
      rw [hc, ← hu, ← ht]
      rw [List.getElem?_take, if_pos hj]; simp
theorem OwnS.lt (h : OwnS w base A c l) : ∀ k, blk A = some k → base ≤ k ∧ k < w.heap.size := by
  have := World.ownsRow.lt h
  rw [ownBlock_blk] at this
  exact this
theorem OwnS.drew (h : OwnS w base A c l) : OwnS w.drew base A c l := h
theorem OwnS.below (h : OwnS w base A c l) (hb : Below w.heap.size w w') : OwnS w' base A c l := by
  obtain ⟨h1, h2⟩ := h
  refine ⟨h1, ?_⟩
  rcases h2 with h2 | ⟨g, cap, cur, hv, hg, hh, r⟩
  · exact .inl h2
  · have hlt : g < w.heap.size := by
      rcases Nat.lt_or_ge g w.heap.size with hl | hl
      · exact hl
      · rw [Array.getElem?_eq_none hl] at hh; cases hh
    exact .inr ⟨g, cap, cur, hv, hg, (hb.block g hlt).trans hh, r⟩
theorem OwnS.kept (h : OwnS w base A c l) {row : Option Nat} (hg : w.grownBy w' row) (hne : blk A = none ∨ blk A ≠ row) : OwnS w' base A c l := World.ownsRow.kept h hg (by rw [ownBlock_blk]; exact hne)
/-- append of segments that are read anywhere onto a row of the call's own -/
theorem run_appS (h : OwnS w base A c l) {A2 : Option Addr} (hm : Sgs w A2 m) (c2 : Nat) (hlen : l.length + m.length ≤ 1000000) (hbase : base ≤ w.heap.size) (ty : TypeId) :
    ∃ A' c' w', (Builtin.append_ #[75, 75] ty #[.slice A l.length c, .slice A2 m.length c2]).run Try.prog w = .ok (.slice A' (l ++ m).length c') w' ∧ OwnS w' base A' c' (l ++ m) ∧ w.grownBy w' (blk A) ∧ (blk A' = blk A ∨ blk A' = some w.heap.size) := by
  obtain ⟨i, hi, hz, hs, hby⟩ := info_parts info81
  have key : ∀ (ad : Addr), (∀ j u, (segCells m)[j]? = some u → w.cell? (ad.add j) = some u) → ∃ A' c' w', (Builtin.append_ #[75, 75] ty #[.slice A l.length c, .slice (some ad) m.length c2]).run Try.prog w = .ok (.slice A' (l ++ m).length c') w' ∧ OwnS w' base A' c' (l ++ m) ∧ w.grownBy w' (blk A) ∧ (blk A' = blk A ∨ blk A' = some w.heap.size) := fun ad hnews => by
    obtain ⟨v', w', hr, h2, h3, _, h5⟩ := run_append_own_at (P := Try.prog) w base 75 ty 81 i _ 4 48 Try.underlying75 hi hz hs hby rfl (by omega) _ _ _ h ad m.length c2 (segCells m) (segCells_len m) hnews
      (segCells_oneCell m) (by simp only [maxLen]; omega) (by omega) hbase
    have hform : ∃ A' c', v' = .slice A' (l ++ m).length c' := by
      rcases h2.2 with ⟨e, h0⟩ | ⟨g, cap, cur, e, _⟩
      · exact ⟨none, 0, by rw [e, List.length_append, h0]⟩
      · exact ⟨_, cap, by rw [e, List.length_append]⟩
    obtain ⟨A', c', rfl⟩ := hform
    refine ⟨A', c', w', hr, ?_, by rw [ownBlock_blk] at h3; exact h3, by rw [ownBlock_blk, ownBlock_blk] at h5; exact h5⟩
    unfold OwnS
    rw [segCells_app]
    have : (l ++ m).length = l.length + m.length := List.length_append
    rw [this] at h2 ⊢
    exact h2
  rcases Nat.eq_zero_or_pos m.length with h0 | h0
  · obtain rfl : m = [] := List.eq_nil_of_length_eq_zero h0
    cases A2 with
    | some ad => exact key ad (fun j u hu => by simp [segCells] at hu)
    | none =>
      refine ⟨A, c, w, ?_, by simpa using h, ⟨rfl, rfl, rfl, Nat.le_refl _, fun _ _ _ => rfl⟩, .inl rfl⟩
      rw [List.append_nil]
      exact run_app_none w 75 ty 81 i Try.underlying75 hi _ _ _ h c2
  · obtain ⟨b, o, rfl, _, hc⟩ := hm h0
    refine key ⟨b, o, none⟩ (fun j u hu => ?_)
    rw [add_plain]; exact hc j u hu
theorem wp_appS {o : Oper} {a : Act} {K : Act → World → Prop} {Q : Exit → Act → World → Prop} (s x : Operand)
    (ho : o.op = .call { callee := .builtin .append, args := #[s, x], argTypes := #[75, 75] }) (hs : a.eval s = .slice A l.length c) (h : OwnS w base A c l) {A2 : Option Addr} {c2 : Nat} (hx : a.eval x = .slice A2 m.length c2) (hm : Sgs w A2 m)
    (hlen : l.length + m.length ≤ 1000000) (hbase : base ≤ w.heap.size)
    (hK : ∀ A' c' r w', Hid (r = l ++ m) → OwnS w' base A' c' r → w.grownBy w' (blk A) → (blk A' = blk A ∨ blk A' = some w.heap.size) → K (a.put o.dst (.slice A' r.length c')) w') : o.wp Try.prog a w K Q := by
  obtain ⟨A', c', w', hr, h2, h3, h4⟩ := run_appS h hm c2 hlen hbase o.type
  unfold Oper.wp execOp
  simp only [ho, resolve, invoke, builtin, Sem.run_bind, Sem.run_pure, Result.andThen_ok, List.map_toArray, List.map_cons, List.map_nil, hs, hx, hr]
  exact hK A' c' _ w' rfl h2 h3 h4
theorem wpList_appS {ops : Array Oper} {rest : List Oper} {o : Oper} {a : Act} {Q : Exit → Act → World → Prop} (hgd : o.guard = none) (s x : Operand)
    (ho : o.op = .call { callee := .builtin .append, args := #[s, x], argTypes := #[75, 75] }) (hs : a.eval s = .slice A l.length c) (h : OwnS w base A c l) {A2 : Option Addr} {c2 : Nat} (hx : a.eval x = .slice A2 m.length c2) (hm : Sgs w A2 m)
    (hlen : l.length + m.length ≤ 1000000) (hbase : base ≤ w.heap.size)
    (hK : ∀ A' c' r w', Hid (r = l ++ m) → OwnS w' base A' c' r → w.grownBy w' (blk A) → (blk A' = blk A ∨ blk A' = some w.heap.size) → wpList Try.prog ops Q rest (a.put o.dst (.slice A' r.length c')) w') : wpList Try.prog ops Q (o :: rest) a w :=
  wpList_plain hgd fun _ hK' => wp_appS s x ho hs h hx hm hlen hbase fun A' c' r w' h1 h2 h3 h4 => hK' _ _ (hK A' c' r w' h1 h2 h3 h4)
end
end Go.Proofs.Ytcdklmicbbcknaa
