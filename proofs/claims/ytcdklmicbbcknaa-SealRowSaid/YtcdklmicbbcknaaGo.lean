/-
  A scope whose code jumps back to one label: what holds at every jump serves also where the run comes to the label from ahead. And a frame of which some slots are known and the others are letters.
-/
import Derived.WalkKit
import Derived.ScopeJumps
import Derived.Lib.Hide
namespace Go.Proofs.Ytcdklmicbbcknaa
open Go Go.RowKit
theorem wp_scope_back {P : Program} {a : Act} {w : World} {Q : Exit → Act → World → Prop} {c rest : Code} (l : Nat) (J : Act → World → Prop) (μ : Act → World → Nat) (hf : findLabel c l = some (.seq .skip rest))
    (first : Hid (∀ a w, J a w → rest.wp P (Exit.jump l J Q) a w) → c.wp P (Exit.jump l J Q) a w)
    (pass : ∀ a w, J a w → rest.wp P (Exit.jump l (fun a' w' => J a' w' ∧ μ a' w' < μ a w) Q) a w) : (Code.scope c).wp P Q a w :=
  wp_scope_jumps l J μ hf (first (Lib.hid fun a w hJ => Code.wp_mono (fun e a' w' h => by cases e <;> first | exact h | exact ⟨h.1, h.2.1⟩) (pass a w hJ)))
    (fun a w hJ => wp_seq (wp_skip (pass a w hJ)))

/-- the slots of a frame: 'some v': it holds v; 'none': whatever -/
def Fits : List (Option Value) → List Value → Prop
  | [], [] => True
  | none :: p, _ :: l => Fits p l
  | some v :: p, u :: l => u = v ∧ Fits p l
  | _, _ => False
def AllFit : List (Option Value) → (List Value → Prop) → Prop
  | [], C => C []
  | none :: p, C => ∀ u, AllFit p (fun l => C (u :: l))
  | some v :: p, C => AllFit p (fun l => C (v :: l))
theorem Fits.elim_list : ∀ (p : List (Option Value)) {C : List Value → Prop}, AllFit p C → ∀ l, Fits p l → C l
  | [], _, h, [], _ => h
  | none :: p, C, h, u :: l, hf => Fits.elim_list p (C := fun l => C (u :: l)) (h u) l hf
  | some v :: p, C, h, u :: l, hf => by
    obtain ⟨rfl, hf⟩ := hf
    exact Fits.elim_list p (C := fun l => C (u :: l)) h l hf
  | [], _, _, _ :: _, hf => hf.elim
  | none :: _, _, _, [], hf => hf.elim
  | some _ :: _, _, _, [], hf => hf.elim
/-- a frame that fits -/
def FrameIs (p : List (Option Value)) (a : Act) : Prop := Fits p a.tmps.toList ∧ a.defers = []
theorem FrameIs.elim {p : List (Option Value)} {a : Act} (hf : FrameIs p a) {C : Act → Prop} (h : AllFit p (fun l => C { tmps := l.toArray, defers := [] })) : C a := by
  obtain ⟨⟨l⟩, d⟩ := a
  obtain ⟨h1, h2⟩ := hf
  obtain rfl : d = [] := h2
  exact Fits.elim_list p (C := fun l => C { tmps := l.toArray, defers := [] }) h l h1
theorem wp_frame {p : List (Option Value)} {a : Act} (hf : FrameIs p a) {P : Program} {c : Code} {Q : Act → Exit → Act → World → Prop} {w : World}
    (h : AllFit p (fun l => c.wp P (Q { tmps := l.toArray, defers := [] }) { tmps := l.toArray, defers := [] } w)) : c.wp P (Q a) a w := hf.elim (C := fun a => c.wp P (Q a) a w) h
/-- the same behind 'wp_scope_back' -/
theorem pass_frame {p : List (Option Value)} {a : Act} (hf : FrameIs p a) {P : Program} {c : Code} {l : Nat} {J : Act → World → Prop} {μ : Act → World → Nat} {Q : Exit → Act → World → Prop} {w : World}
    (h : AllFit p (fun l' => c.wp P (Exit.jump l (fun a' w' => J a' w' ∧ μ a' w' < μ { tmps := l'.toArray, defers := [] } w) Q) { tmps := l'.toArray, defers := [] } w)) :
    c.wp P (Exit.jump l (fun a' w' => J a' w' ∧ μ a' w' < μ a w) Q) a w := hf.elim (C := fun a => c.wp P (Exit.jump l (fun a' w' => J a' w' ∧ μ a' w' < μ a w) Q) a w) h
end Go.Proofs.Ytcdklmicbbcknaa
