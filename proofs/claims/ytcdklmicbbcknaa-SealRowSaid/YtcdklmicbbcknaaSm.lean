/-
  seal.May: what it comes to, by a walk of its text.
-/
import Derived.Test.YtcdklmicbbcknaaMe
import Derived.Test.YtcdklmicbbcknaaXo
namespace Go.Proofs.Ytcdklmicbbcknaa
open Go Go.RowKit
/-- may a segment of this kind, place, with this mark, of so many bytes be? -/
def mayB (k p : Int) (last : Bool) (n : Nat) : Bool := decide (1 ≤ k ∧ k ≤ 3 ∧ 0 ≤ p ∧ p ≤ 1048576 ∧ n ≤ 12100 ∧ last = decide (k = 3))
set_option maxRecDepth 20000 in
set_option maxHeartbeats 8000000 in
theorem may_any (k p : Int) (last : Bool) (A : Option Addr) (n c : Nat) (w : World) : Calls Try.prog 58 #[.agg #[.int .i64 k, .int .i64 p, .bool last, .slice A n c]] w fun e w' => e = .returned (.bool (mayB k p last n)) ∧ Below w.heap.size w w' := by
  have hb0 : Below w.heap.size w (w.alloc (.cells #[.int .i64 k, .int .i64 p, .bool last, .slice A n c] 81)) := (Below.refl _ _).alloc (Nat.le_refl _) _
  rcases (show k < 1 ∨ (1 ≤ k ∧ 3 < k) ∨ (1 ≤ k ∧ k ≤ 3 ∧ p < 0) ∨ (1 ≤ k ∧ k ≤ 3 ∧ 0 ≤ p ∧ 1048576 < p) ∨ (1 ≤ k ∧ k ≤ 3 ∧ 0 ≤ p ∧ p ≤ 1048576 ∧ 12100 < n) ∨ (1 ≤ k ∧ k ≤ 3 ∧ 0 ≤ p ∧ p ≤ 1048576 ∧ n ≤ 12100) by omega) with h | ⟨h, h1⟩ | ⟨h, h1, h2⟩ | ⟨h, h1, h2, h3⟩ | ⟨h, h1, h2, h3, h4⟩ | ⟨h, h1, h2, h3, h4⟩
  · have hm : mayB k p last n = false := decide_eq_false (by omega)
    rw [hm]
    go_enter Try.func58, Try.ntmps58
    go_wp2_with fail
    go_ret
    exact ⟨by simp, hb0⟩
  · have hm : mayB k p last n = false := decide_eq_false (by omega)
    rw [hm]
    go_enter Try.func58, Try.ntmps58
    go_wp2_with fail
    go_ret
    exact ⟨by simp, hb0⟩
  · have hm : mayB k p last n = false := decide_eq_false (by omega)
    rw [hm]
    go_enter Try.func58, Try.ntmps58
    go_wp2_with fail
    go_ret
    exact ⟨by simp, hb0⟩
  · have hm : mayB k p last n = false := decide_eq_false (by omega)
    rw [hm]
    go_enter Try.func58, Try.ntmps58
    go_wp2_with fail
    go_ret
    exact ⟨by simp, hb0⟩
  · have hm : mayB k p last n = false := decide_eq_false (by omega)
    rw [hm]
    go_enter Try.func58, Try.ntmps58
    go_wp2_with fail
    go_ret
    exact ⟨by simp, hb0⟩
  · have hm : mayB k p last n = (last == decide (k = 3)) := by
      cases last <;> by_cases h3k : k = 3 <;> simp [mayB, h3k] <;> omega
    rw [hm]
    by_cases h3k : k = 3
    · subst h3k
      go_enter Try.func58, Try.ntmps58
      go_wp2_with fail
      go_ret
      exact ⟨by simp, hb0⟩
    · go_enter Try.func58, Try.ntmps58
      go_wp2_with fail
      go_ret
      have hk3 : (k == 3) = false := beq_eq_false_iff_ne.2 h3k
      exact ⟨by simp [h3k, hk3], hb0⟩
end Go.Proofs.Ytcdklmicbbcknaa
