/-
  seal.Get behind the end of the bytes: a walk of its text.
-/
import Derived.Test.YtcdklmicbbcknaaSw
namespace Go.Proofs.Ytcdklmicbbcknaa
open Go Go.RowKit
set_option maxRecDepth 20000 in
set_option maxHeartbeats 8000000 in
theorem sget_0 (k : K8) (A : Option Addr) (n c : Nat) (at_ : Nat) (place : Int) (w : World) (h : n < at_) :
    Calls Try.prog 59 #[.agg k.vals.toArray, .slice A n c, .int .i64 at_, .int .i64 place] w fun e w' => e = .returned (.tuple #[zseg, .int .i64 at_, .int .i64 1]) ∧ Below w.heap.size w w' := by
  have hb0 : Below w.heap.size w ((w.alloc (.cells k.vals.toArray 28)).alloc (.cells #[.int .i64 0, .int .i64 0, .bool false, .slice none 0 0] 81)) := ((Below.refl _ _).alloc (Nat.le_refl _) _).alloc (by simp) _
  unfold K8.vals at *
  go_enter Try.func59, Try.ntmps59
  go_wp2_with fail
  exact bodyPost_ret (v := .tuple #[zseg, .int .i64 at_, .int .i64 1]) (by simp [results, Try.results59, go_sem, zseg]) rfl ⟨rfl, hb0⟩
end Go.Proofs.Ytcdklmicbbcknaa
