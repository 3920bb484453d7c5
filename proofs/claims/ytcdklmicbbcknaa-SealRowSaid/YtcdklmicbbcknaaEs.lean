/-
  What a drawn region of the laws of layers 14 and 15 is told of the world: a key's eight cells, and the argument's bytes.
-/
import Derived.Test.YtcdklmicbbcknaaTq
namespace Go.Proofs.Ytcdklmicbbcknaa
open Go Go.RowKit
section
variable {g : Nat} {v0 v1 v2 v3 v4 v5 v6 v7 : Value} {w0 w1 w2 : World} {A : Option Addr} {l : List UInt8}
theorem env9_keep (h : w1.cell? ⟨g, 0, none⟩ = some v0 ∧ w1.cell? ⟨g, 1, none⟩ = some v1 ∧ w1.cell? ⟨g, 2, none⟩ = some v2 ∧ w1.cell? ⟨g, 3, none⟩ = some v3 ∧ w1.cell? ⟨g, 4, none⟩ = some v4 ∧ w1.cell? ⟨g, 5, none⟩ = some v5 ∧ w1.cell? ⟨g, 6, none⟩ = some v6 ∧ w1.cell? ⟨g, 7, none⟩ = some v7 ∧ Bts w1 A l ∧ Kp w0 A l w1) (hb : Below w1.heap.size w1 w2) : w2.cell? ⟨g, 0, none⟩ = some v0 ∧ w2.cell? ⟨g, 1, none⟩ = some v1 ∧ w2.cell? ⟨g, 2, none⟩ = some v2 ∧ w2.cell? ⟨g, 3, none⟩ = some v3 ∧ w2.cell? ⟨g, 4, none⟩ = some v4 ∧ w2.cell? ⟨g, 5, none⟩ = some v5 ∧ w2.cell? ⟨g, 6, none⟩ = some v6 ∧ w2.cell? ⟨g, 7, none⟩ = some v7 ∧ Bts w2 A l ∧ Kp w0 A l w2 := by
  obtain ⟨h0, h1, h2, h3, h4, h5, h6, h7, hB, hk⟩ := h
  have hg : g < w1.heap.size := World.block_lt_of_cell? w1 _ h0
  have hc := (bcell hb).1
  exact ⟨(hc _ _ hg).trans h0, (hc _ _ hg).trans h1, (hc _ _ hg).trans h2, (hc _ _ hg).trans h3, (hc _ _ hg).trans h4, (hc _ _ hg).trans h5, (hc _ _ hg).trans h6, (hc _ _ hg).trans h7, hB.below hb, hk.next hb⟩
theorem env9_kp (h : w1.cell? ⟨g, 0, none⟩ = some v0 ∧ w1.cell? ⟨g, 1, none⟩ = some v1 ∧ w1.cell? ⟨g, 2, none⟩ = some v2 ∧ w1.cell? ⟨g, 3, none⟩ = some v3 ∧ w1.cell? ⟨g, 4, none⟩ = some v4 ∧ w1.cell? ⟨g, 5, none⟩ = some v5 ∧ w1.cell? ⟨g, 6, none⟩ = some v6 ∧ w1.cell? ⟨g, 7, none⟩ = some v7 ∧ Bts w1 A l ∧ Kp w0 A l w1) : Kp w0 A l w1 := by
  obtain ⟨h0, h1, h2, h3, h4, h5, h6, h7, hB, hk⟩ := h
  exact hk
theorem env9_start {t : TypeId} (h : Holds w1 g t [v0, v1, v2, v3, v4, v5, v6, v7]) (hk : Kp w0 A l w1) : w1.cell? ⟨g, 0, none⟩ = some v0 ∧ w1.cell? ⟨g, 1, none⟩ = some v1 ∧ w1.cell? ⟨g, 2, none⟩ = some v2 ∧ w1.cell? ⟨g, 3, none⟩ = some v3 ∧ w1.cell? ⟨g, 4, none⟩ = some v4 ∧ w1.cell? ⟨g, 5, none⟩ = some v5 ∧ w1.cell? ⟨g, 6, none⟩ = some v6 ∧ w1.cell? ⟨g, 7, none⟩ = some v7 ∧ Bts w1 A l ∧ Kp w0 A l w1 := by
  obtain ⟨h0, h1, h2, h3, h4, h5, h6, h7⟩ := h.eight
  exact ⟨h0, h1, h2, h3, h4, h5, h6, h7, hk.2.2, hk⟩
end
theorem xorL_len2 (k : K8) (p : Int) (b : List UInt8) : (xorL (streamL k p b.length) b).length = b.length := by rw [xorL_len _ _ (streamL_len k p _), streamL_len]
theorem xor_cancel (x y : UInt8) : x ^^^ (x ^^^ y) = y := by rw [← UInt8.xor_assoc]; simp
theorem xorL_back : ∀ (s b : List UInt8), s.length = b.length → xorL s (xorL s b) = b
  | [], [], _ => rfl
  | [], _ :: _, h => by simp at h
  | _ :: _, [], h => by simp at h
  | x :: s, y :: b, h => by
    show (x ^^^ (x ^^^ y)) :: xorL s (xorL s b) = _
    rw [xor_cancel, xorL_back s b (by simpa using h)]
/-- Xor with the same key and place twice -/
theorem xor_twice (k : K8) (p : Int) (b : List UInt8) : xorL (streamL k p (xorL (streamL k p b.length) b).length) (xorL (streamL k p b.length) b) = b := by
  rw [xorL_len2, xorL_back _ _ (streamL_len k p _)]
theorem xorL_comm : ∀ (s t b : List UInt8), s.length = b.length → t.length = b.length → xorL s (xorL t b) = xorL t (xorL s b)
  | [], [], [], _, _ => rfl
  | [], _ :: _, [], _, h => by simp at h
  | _ :: _, _, [], h, _ => by simp at h
  | [], _, _ :: _, h, _ => by simp at h
  | _ :: _, [], _ :: _, _, h => by simp at h
  | x :: s, y :: t, z :: b, h, h' => by
    show (x ^^^ (y ^^^ z)) :: xorL s (xorL t b) = (y ^^^ (x ^^^ z)) :: xorL t (xorL s b)
    rw [xorL_comm s t b (by simpa using h) (by simpa using h'), ← UInt8.xor_assoc, ← UInt8.xor_assoc, UInt8.xor_comm x y]
theorem run_str' {w : World} {A : Option Addr} {l : List UInt8} {c : Nat} (h : Bts w A l) : (convert 24 9 (.slice A l.length c)).run Try.prog w = .ok (.string (mkStr l)) w := run_str h c
theorem mkStr_inj (l m : List UInt8) : mkStr l = mkStr m ↔ l = m := ⟨fun h => by have := congrArg (fun s => s.data.toList) h; exact this, fun h => by rw [h]⟩
end Go.Proofs.Ytcdklmicbbcknaa
