/-
  A block of memory that is known whole: what its cells hold, and how it is kept over draws, new blocks, stores and calls.
-/
import Derived.Below
import Derived.Deep.Draws
import Derived.Laws.Rows
import Derived.WalkKit
namespace Go.Proofs.Ytcdklmicbbcknaa
open Go Go.RowKit

/-- block g holds just the cells cs, of element type t, none of them shut -/
def Holds (w : World) (g : Nat) (t : TypeId) (cs : List Value) : Prop := w.heap[g]? = some (.cells cs.toArray t (0, 0))

section
variable {w w' : World} {g : Nat} {t : TypeId} {cs : List Value}
theorem Holds.lt (h : Holds w g t cs) : g < w.heap.size := by
  unfold Holds at h
  rcases Nat.lt_or_ge g w.heap.size with hl | hl
  · exact hl
  · rw [Array.getElem?_eq_none hl] at h; cases h
theorem Holds.cell (h : Holds w g t cs) (i : Nat) : w.cell? ⟨g, i, none⟩ = cs[i]? := by
  unfold Holds at h; simp [World.cell?, h]
theorem Holds.free (h : Holds w g t cs) (i : Nat) : w.frozen? ⟨g, i, none⟩ = false := by
  unfold Holds at h; simp [World.frozen?, h]
theorem Holds.new (w : World) (t : TypeId) (cs : List Value) : Holds (w.alloc (.cells cs.toArray t)) w.heap.size t cs := by
  exact heap_alloc_new w _
theorem Holds.newAt (w : World) (t : TypeId) (cs : List Value) {n : Nat} (hn : n = w.heap.size) : Holds (w.alloc (.cells cs.toArray t)) n t cs := hn ▸ Holds.new w t cs
theorem Holds.drew (h : Holds w g t cs) : Holds w.drew g t cs := h
theorem Holds.undrew (h : Holds w.drew g t cs) : Holds w g t cs := h
theorem Holds.drewN (h : Holds w g t cs) (n : Nat) : Holds (w.drewN n) g t cs := h
theorem Holds.alloc (h : Holds w g t cs) (o : Obj) : Holds (w.alloc o) g t cs := (Below.heap_alloc w o g h.lt).trans h
theorem Holds.set (h : Holds w g t cs) (i : Nat) (u : Value) : Holds (w.setCell ⟨g, i, none⟩ u) g t (cs.set i u) := by
  unfold Holds at h ⊢
  simp [World.setCell, Array.getElem?_modify, h]
theorem Holds.far (h : Holds w g t cs) {p : Addr} (hp : g ≠ p.block) (u : Value) : Holds (w.setCell p u) g t cs := (Below.heap_setCell w p u g hp).trans h
theorem Holds.below {B : Nat} (h : Holds w g t cs) (hb : Below B w w') (hg : g < B) : Holds w' g t cs := (hb.block g hg).trans h
theorem Holds.grown {row : Option Nat} (h : Holds w g t cs) (hb : w.grownBy w' row) (hg : some g ≠ row) : Holds w' g t cs := (hb.block g h.lt hg).trans h
theorem Holds.one {v0 : Value} (h : Holds w g t [v0]) : w.cell? ⟨g, 0, none⟩ = some v0 := h.cell 0
theorem Holds.oneFree {v0 : Value} (h : Holds w g t [v0]) : w.frozen? ⟨g, 0, none⟩ = false := h.free 0
theorem Holds.four {v0 v1 v2 v3 : Value} (h : Holds w g t [v0, v1, v2, v3]) : w.cell? ⟨g, 0, none⟩ = some v0 ∧ w.cell? ⟨g, 1, none⟩ = some v1 ∧ w.cell? ⟨g, 2, none⟩ = some v2 ∧ w.cell? ⟨g, 3, none⟩ = some v3 := ⟨h.cell 0, h.cell 1, h.cell 2, h.cell 3⟩
theorem Holds.fourFree {v0 v1 v2 v3 : Value} (h : Holds w g t [v0, v1, v2, v3]) : w.frozen? ⟨g, 0, none⟩ = false ∧ w.frozen? ⟨g, 1, none⟩ = false ∧ w.frozen? ⟨g, 2, none⟩ = false ∧ w.frozen? ⟨g, 3, none⟩ = false := ⟨h.free 0, h.free 1, h.free 2, h.free 3⟩
theorem Holds.eight {v0 v1 v2 v3 v4 v5 v6 v7 : Value} (h : Holds w g t [v0, v1, v2, v3, v4, v5, v6, v7]) : w.cell? ⟨g, 0, none⟩ = some v0 ∧ w.cell? ⟨g, 1, none⟩ = some v1 ∧ w.cell? ⟨g, 2, none⟩ = some v2 ∧ w.cell? ⟨g, 3, none⟩ = some v3 ∧ w.cell? ⟨g, 4, none⟩ = some v4 ∧ w.cell? ⟨g, 5, none⟩ = some v5 ∧ w.cell? ⟨g, 6, none⟩ = some v6 ∧ w.cell? ⟨g, 7, none⟩ = some v7 := ⟨h.cell 0, h.cell 1, h.cell 2, h.cell 3, h.cell 4, h.cell 5, h.cell 6, h.cell 7⟩
theorem Holds.eightFree {v0 v1 v2 v3 v4 v5 v6 v7 : Value} (h : Holds w g t [v0, v1, v2, v3, v4, v5, v6, v7]) : w.frozen? ⟨g, 0, none⟩ = false ∧ w.frozen? ⟨g, 1, none⟩ = false ∧ w.frozen? ⟨g, 2, none⟩ = false ∧ w.frozen? ⟨g, 3, none⟩ = false ∧ w.frozen? ⟨g, 4, none⟩ = false ∧ w.frozen? ⟨g, 5, none⟩ = false ∧ w.frozen? ⟨g, 6, none⟩ = false ∧ w.frozen? ⟨g, 7, none⟩ = false := ⟨h.free 0, h.free 1, h.free 2, h.free 3, h.free 4, h.free 5, h.free 6, h.free 7⟩
/-- behind a new block, four stores into block b and a draw -/
theorem Holds.quadFar (h : Holds w g t cs) {b : Nat} (hne : g ≠ b) (o : Obj) (i0 i1 i2 i3 : Nat) (v0 v1 v2 v3 : Value) :
    Holds (((((w.alloc o).setCell ⟨b, i0, none⟩ v0).setCell ⟨b, i1, none⟩ v1).setCell ⟨b, i2, none⟩ v2).setCell ⟨b, i3, none⟩ v3).drew g t cs :=
  ((((h.alloc o).far (p := ⟨b, i0, none⟩) hne v0).far (p := ⟨b, i1, none⟩) hne v1).far (p := ⟨b, i2, none⟩) hne v2).far (p := ⟨b, i3, none⟩) hne v3
theorem Holds.quad (h : Holds w g t cs) (o : Obj) (i0 i1 i2 i3 : Nat) (v0 v1 v2 v3 : Value) {cs' : List Value} (hcs : (((cs.set i0 v0).set i1 v1).set i2 v2).set i3 v3 = cs') :
    Holds (((((w.alloc o).setCell ⟨g, i0, none⟩ v0).setCell ⟨g, i1, none⟩ v1).setCell ⟨g, i2, none⟩ v2).setCell ⟨g, i3, none⟩ v3).drew g t cs' :=
  hcs ▸ ((((h.alloc o).set i0 v0).set i1 v1).set i2 v2).set i3 v3
theorem below_quad {B : Nat} {w0 : World} (h : Below B w0 w) (hw : B ≤ w.heap.size) {b : Nat} (hb : B ≤ b) (o : Obj) (i0 i1 i2 i3 : Nat) (v0 v1 v2 v3 : Value) :
    Below B w0 (((((w.alloc o).setCell ⟨b, i0, none⟩ v0).setCell ⟨b, i1, none⟩ v1).setCell ⟨b, i2, none⟩ v2).setCell ⟨b, i3, none⟩ v3).drew :=
  (((((h.alloc hw o).setCell (p := ⟨b, i0, none⟩) hb v0).setCell (p := ⟨b, i1, none⟩) hb v1).setCell (p := ⟨b, i2, none⟩) hb v2).setCell (p := ⟨b, i3, none⟩) hb v3).drew
theorem Holds.cellAt (h : Holds w g t cs) {i : Nat} {u : Value} (hu : cs[i]? = some u) : w.cell? ⟨g, i, none⟩ = some u := (h.cell i).trans hu
end
end Go.Proofs.Ytcdklmicbbcknaa
