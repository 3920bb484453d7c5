/-
  A slice of bytes that reads as a list: what a walk asks of memory.
-/
import Derived.Test.YtcdklmicbbcknaaMe
import Derived.Test.YtcdklmicbbcknaaPb
namespace Go.Proofs.Ytcdklmicbbcknaa
open Go Go.RowKit
/-- a slice of bytes that reads as a list -/
def Bts (w : World) (A : Option Addr) (l : List UInt8) : Prop :=
  0 < l.length → ∃ b o, A = some ⟨b, o, none⟩ ∧ b < w.heap.size ∧ ∀ j, j < l.length → w.cell? ⟨b, o + j, none⟩ = some (.int .u8 ((l.getD j 0).toNat : Int))
theorem Bts.nil (w : World) (A : Option Addr) : Bts w A [] := fun h => absurd h (by simp)
theorem Bts.keep {w w' : World} {A : Option Addr} {l : List UInt8} (h : Bts w A l) (hk : ∀ b o, b < w.heap.size → w'.cell? ⟨b, o, none⟩ = w.cell? ⟨b, o, none⟩) (hs : w.heap.size ≤ w'.heap.size) : Bts w' A l := fun h0 => by
  obtain ⟨b, o, e, hb, hc⟩ := h h0
  exact ⟨b, o, e, by omega, fun j hj => (hk b _ hb).trans (hc j hj)⟩
theorem Bts.below {w w' : World} {A : Option Addr} {l : List UInt8} (h : Bts w A l) (hb : Below w.heap.size w w') : Bts w' A l := h.keep (fun b o hlt => hb.cell (p := ⟨b, o, none⟩) hlt) hb.size
theorem Bts.drew {w : World} {A : Option Addr} {l : List UInt8} (h : Bts w A l) : Bts w.drew A l := h
theorem Bts.alloc {w : World} {A : Option Addr} {l : List UInt8} (h : Bts w A l) (o : Obj) : Bts (w.alloc o) A l := h.below ((Below.refl _ _).alloc (Nat.le_refl _) o)
theorem bvals_get (l : List UInt8) (j : Nat) (h : j < l.length) : (bvals l)[j]? = some (.int .u8 ((l.getD j 0).toNat : Int)) := by
  simp [bvals, List.getD_eq_getElem?_getD, List.getElem?_eq_getElem h]
theorem Bts.of_holds {w : World} {g : Nat} {t : TypeId} {l : List UInt8} (h : Holds w g t (bvals l)) : Bts w (some ⟨g, 0, none⟩) l := fun _ =>
  ⟨g, 0, rfl, h.lt, fun j hj => by rw [Nat.zero_add]; exact h.cellAt (bvals_get l j hj)⟩
theorem bcell {W w1 : World} (hb : Below W.heap.size W w1) : (∀ b o, b < W.heap.size → w1.cell? ⟨b, o, none⟩ = W.cell? ⟨b, o, none⟩) ∧ (∀ b o, b < W.heap.size → w1.frozen? ⟨b, o, none⟩ = W.frozen? ⟨b, o, none⟩) :=
  ⟨fun b o h => hb.cell (p := ⟨b, o, none⟩) h, fun b o h => hb.frozen (p := ⟨b, o, none⟩) h⟩
/-- old memory as it was, and the bytes still there -/
def Kp (w0 : World) (A : Option Addr) (l : List UInt8) (w1 : World) : Prop := Below w0.heap.size w0 w1 ∧ w0.heap.size ≤ w1.heap.size ∧ Bts w1 A l
theorem Kp.below {w0 w1 : World} {A : Option Addr} {l : List UInt8} (h : Kp w0 A l w1) : Below w0.heap.size w0 w1 := h.1
theorem Kp.next {w0 w1 w2 : World} {A : Option Addr} {l : List UInt8} (h : Kp w0 A l w1) (hb : Below w1.heap.size w1 w2) : Kp w0 A l w2 :=
  ⟨h.1.trans (hb.mono h.2.1), Nat.le_trans h.2.1 hb.size, h.2.2.below hb⟩
section
variable {g : Nat} {v0 v1 v2 v3 v4 v5 v6 v7 : Value} {w0 w1 w2 : World} {A : Option Addr} {l : List UInt8}
theorem env8_keep (h : w1.cell? ⟨g, 0, none⟩ = some v0 ∧ w1.cell? ⟨g, 1, none⟩ = some v1 ∧ w1.cell? ⟨g, 2, none⟩ = some v2 ∧ w1.cell? ⟨g, 3, none⟩ = some v3 ∧ w1.cell? ⟨g, 4, none⟩ = some v4 ∧ w1.cell? ⟨g, 5, none⟩ = some v5 ∧ w1.cell? ⟨g, 6, none⟩ = some v6 ∧ w1.cell? ⟨g, 7, none⟩ = some v7 ∧ Kp w0 A l w1) (hb : Below w1.heap.size w1 w2) : w2.cell? ⟨g, 0, none⟩ = some v0 ∧ w2.cell? ⟨g, 1, none⟩ = some v1 ∧ w2.cell? ⟨g, 2, none⟩ = some v2 ∧ w2.cell? ⟨g, 3, none⟩ = some v3 ∧ w2.cell? ⟨g, 4, none⟩ = some v4 ∧ w2.cell? ⟨g, 5, none⟩ = some v5 ∧ w2.cell? ⟨g, 6, none⟩ = some v6 ∧ w2.cell? ⟨g, 7, none⟩ = some v7 ∧ Kp w0 A l w2 := by
  obtain ⟨h0, h1, h2, h3, h4, h5, h6, h7, hk⟩ := h
  have hg : g < w1.heap.size := World.block_lt_of_cell? w1 _ h0
  have hc := (bcell hb).1
  exact ⟨(hc _ _ hg).trans h0, (hc _ _ hg).trans h1, (hc _ _ hg).trans h2, (hc _ _ hg).trans h3, (hc _ _ hg).trans h4, (hc _ _ hg).trans h5, (hc _ _ hg).trans h6, (hc _ _ hg).trans h7, hk.next hb⟩
theorem env8_kp (h : w1.cell? ⟨g, 0, none⟩ = some v0 ∧ w1.cell? ⟨g, 1, none⟩ = some v1 ∧ w1.cell? ⟨g, 2, none⟩ = some v2 ∧ w1.cell? ⟨g, 3, none⟩ = some v3 ∧ w1.cell? ⟨g, 4, none⟩ = some v4 ∧ w1.cell? ⟨g, 5, none⟩ = some v5 ∧ w1.cell? ⟨g, 6, none⟩ = some v6 ∧ w1.cell? ⟨g, 7, none⟩ = some v7 ∧ Kp w0 A l w1) : Kp w0 A l w1 := by
  obtain ⟨h0, h1, h2, h3, h4, h5, h6, h7, hk⟩ := h
  exact hk
theorem env8_start {t : TypeId} (h : Holds w1 g t [v0, v1, v2, v3, v4, v5, v6, v7]) (hk : Kp w0 A l w1) : w1.cell? ⟨g, 0, none⟩ = some v0 ∧ w1.cell? ⟨g, 1, none⟩ = some v1 ∧ w1.cell? ⟨g, 2, none⟩ = some v2 ∧ w1.cell? ⟨g, 3, none⟩ = some v3 ∧ w1.cell? ⟨g, 4, none⟩ = some v4 ∧ w1.cell? ⟨g, 5, none⟩ = some v5 ∧ w1.cell? ⟨g, 6, none⟩ = some v6 ∧ w1.cell? ⟨g, 7, none⟩ = some v7 ∧ Kp w0 A l w1 := by
  obtain ⟨h0, h1, h2, h3, h4, h5, h6, h7⟩ := h.eight
  exact ⟨h0, h1, h2, h3, h4, h5, h6, h7, hk⟩
end
end Go.Proofs.Ytcdklmicbbcknaa
