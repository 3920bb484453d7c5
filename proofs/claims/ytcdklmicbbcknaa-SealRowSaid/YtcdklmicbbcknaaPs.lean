/-
  The stream of lane.Stream as a plain list of bytes. No program in sight.
-/
import Derived.Test.YtcdklmicbbcknaaPb
namespace Go.Proofs.Ytcdklmicbbcknaa

def blkK (k : K8) (p : Int) (x : BitVec 32) : K8 := ⟨k.k0 ^^^ BitVec.ofInt 32 p, k.k1 ^^^ x, k.k2, k.k3, k.k4, k.k5, k.k6, k.k7⟩
def blkM (k m : K8) : List UInt8 := [] ++ le4 (m.k0 + k.k0) ++ le4 (m.k1 + k.k1) ++ le4 (m.k2 + k.k2) ++ le4 (m.k3 + k.k3) ++ le4 (m.k4 + k.k4) ++ le4 (m.k5 + k.k5) ++ le4 (m.k6 + k.k6) ++ le4 (m.k7 + k.k7)
/-- the first q blocks -/
def rowsL (k : K8) (p : Int) : Nat → List UInt8
  | 0 => []
  | q + 1 => rowsL k p q ++ blkM k (mix (blkK k p (BitVec.ofNat 32 q)))
theorem blkM_len (k m : K8) : (blkM k m).length = 32 := by simp [blkM, le4]
theorem rowsL_len (k : K8) (p : Int) : ∀ q, (rowsL k p q).length = 32 * q
  | 0 => rfl
  | q + 1 => by rw [rowsL, List.length_append, rowsL_len k p q, blkM_len]; omega
def streamL (k : K8) (p : Int) (n : Nat) : List UInt8 := (rowsL k p ((n + 31) / 32)).take n
theorem streamL_len (k : K8) (p : Int) (n : Nat) : (streamL k p n).length = n := by
  rw [streamL, List.length_take, rowsL_len]; omega
theorem rowsL_take (k : K8) (p : Int) (n : Nat) : ∀ d, n ≤ 32 * d → (rowsL k p d).take n = streamL k p n := fun d hd => by
  have key : ∀ e q, n ≤ 32 * q → (rowsL k p (q + e)).take n = (rowsL k p q).take n := fun e => by
    induction e with
    | zero => intro q _; rfl
    | succ e ih =>
      intro q hq
      rw [← Nat.add_assoc, rowsL, List.take_append_of_le_length (by rw [rowsL_len]; omega), ih q hq]
  obtain ⟨e, he⟩ : ∃ e, d = (n + 31) / 32 + e := ⟨d - (n + 31) / 32, by omega⟩
  rw [he, key e _ (by omega)]; rfl
/-- a longer stream begins with a shorter one -/
theorem streamL_take (k : K8) (p : Int) (n m : Nat) (h : n ≤ m) : (streamL k p m).take n = streamL k p n := by
  unfold streamL
  rw [List.take_take, Nat.min_eq_left h, rowsL_take k p n _ (by omega)]; rfl
theorem rowsL_place (k : K8) (p p' : Int) (h : BitVec.ofInt 32 p = BitVec.ofInt 32 p') : ∀ q, rowsL k p q = rowsL k p' q
  | 0 => rfl
  | q + 1 => by rw [rowsL, rowsL, rowsL_place k p p' h q, blkK, blkK, h]
theorem streamL_place (k : K8) (p p' : Int) (n : Nat) (h : BitVec.ofInt 32 p = BitVec.ofInt 32 p') : streamL k p n = streamL k p' n := by
  rw [streamL, streamL, rowsL_place k p p' h]
end Go.Proofs.Ytcdklmicbbcknaa
