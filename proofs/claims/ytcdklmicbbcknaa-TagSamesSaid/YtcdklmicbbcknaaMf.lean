/-
  A slice of bytes that reads as a list: what a walk asks of memory.
-/
import Derived.Test.YtcdklmicbbcknaaMe
import Derived.Test.YtcdklmicbbcknaaPb
namespace Go.Proofs.Ytcdklmicbbcknaa
open Go Go.RowKit
/-- a slice of bytes that reads as a list -/
def Bts (w : World) (A : Option Addr) (l : List UInt8) : Prop :=
  0 < l.length → ∃ b o, A = some ⟨b, o, none⟩ ∧ b < w.heap.size ∧ ∀ j, j < l.length → w.cell? ⟨b, o + j, none⟩ = some (.int .u8 ((l.getD j 0).toNat : Int))
theorem Bts.nil (w : World) (A : Option Addr) : Bts w A [] := fun h => absurd h (by simp)
theorem Bts.keep {w w' : World} {A : Option Addr} {l : List UInt8} (h : Bts w A l) (hk : ∀ b o, b < w.heap.size → w'.cell? ⟨b, o, none⟩ = w.cell? ⟨b, o, none⟩) (hs : w.heap.size ≤ w'.heap.size) : Bts w' A l := fun h0 => by
  obtain ⟨b, o, e, hb, hc⟩ := h h0
  exact ⟨b, o, e, by omega, fun j hj => (hk b _ hb).trans (hc j hj)⟩
theorem Bts.below {w w' : World} {A : Option Addr} {l : List UInt8} (h : Bts w A l) (hb : Below w.heap.size w w') : Bts w' A l := h.keep (fun b o hlt => hb.cell (p := ⟨b, o, none⟩) hlt) hb.size
theorem Bts.drew {w : World} {A : Option Addr} {l : List UInt8} (h : Bts w A l) : Bts w.drew A l := h
theorem Bts.alloc {w : World} {A : Option Addr} {l : List UInt8} (h : Bts w A l) (o : Obj) : Bts (w.alloc o) A l := h.below ((Below.refl _ _).alloc (Nat.le_refl _) o)
theorem bvals_get (l : List UInt8) (j : Nat) (h : j < l.length) : (bvals l)[j]? = some (.int .u8 ((l.getD j 0).toNat : Int)) := by
  simp [bvals, List.getD_eq_getElem?_getD, List.getElem?_eq_getElem h]
theorem Bts.of_holds {w : World} {g : Nat} {t : TypeId} {l : List UInt8} (h : Holds w g t (bvals l)) : Bts w (some ⟨g, 0, none⟩) l := fun _ =>
  ⟨g, 0, rfl, h.lt, fun j hj => by rw [Nat.zero_add]; exact h.cellAt (bvals_get l j hj)⟩
theorem bcell {W w1 : World} (hb : Below W.heap.size W w1) : (∀ b o, b < W.heap.size → w1.cell? ⟨b, o, none⟩ = W.cell? ⟨b, o, none⟩) ∧ (∀ b o, b < W.heap.size → w1.frozen? ⟨b, o, none⟩ = W.frozen? ⟨b, o, none⟩) :=
  ⟨fun b o h => hb.cell (p := ⟨b, o, none⟩) h, fun b o h => hb.frozen (p := ⟨b, o, none⟩) h⟩
end Go.Proofs.Ytcdklmicbbcknaa
