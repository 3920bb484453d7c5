/-
  Ro's walk of a drawn region: what holds of the world may grow behind a call.
-/
import Derived.Test.YtcdklmicbbcknaaRo
namespace Go.Proofs.Ytcdklmicbbcknaa
open Go
section
variable {P : Program} {ops : Array Oper} {Q : Exit → Act → World → Prop} {md : Region.Mode} {A A' B C : World → Prop} {e : Nat}
theorem wpAnyT_mono (hA : ∀ w, A' w → A w) : ∀ (fuel : Nat) (listed : Array Bool) (a : Act) (w : World), wpAnyT P md ops Q e A' B fuel listed a w → wpAnyT P md ops Q e A B fuel listed a w
  | 0, _, _, _, h => h
  | fuel + 1, _, _, _, h => ⟨h.1, fun i hi => wpOp_mono (fun a' w' h' => ⟨⟨hA _ h'.1.1, h'.1.2⟩, wpAnyT_mono hA fuel _ a' w' h'.2⟩) (h.2 i hi)⟩
theorem Go_.raise {fuel : Nat} {listed : Array Bool} {a : Act} {w : World} (hC : C w) (h : Go_ P md ops Q e (fun w => A w ∧ C w) B fuel listed a w) : Go_ P md ops Q e A B fuel listed a w :=
  fun hsh hT => wpAnyT_mono (fun _ h => h.1) fuel listed a w (h hsh ⟨⟨hT.1, hC⟩, hT.2⟩)
theorem Till.of {listed : Array Bool} {w : World} (h : A w) : Till e A (fun _ => True) listed w := ⟨h, fun _ => trivial⟩
end
end Go.Proofs.Ytcdklmicbbcknaa
