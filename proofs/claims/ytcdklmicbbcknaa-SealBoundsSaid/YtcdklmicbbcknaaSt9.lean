/-
  The told() of layer 17: what its calls come to.
-/
import Derived.Test.YtcdklmicbbcknaaSa
namespace Go.Proofs.Ytcdklmicbbcknaa
open Go Go.RowKit
def K9 : K8 := ⟨9, 0, 0, 0, 0, 0, 0, 0⟩
def K8z : K8 := ⟨8, 0, 0, 0, 0, 0, 0, 0⟩
def sealX : List UInt8 := xorL (streamL K9 0 2) [97, 98]
theorem sealB9 : sealB K9 1 0 [97, 98] = [1, 0, 2] ++ sealX := by
  unfold sealB
  rw [putL_lt (by omega), show ([97, 98] : List UInt8).length = 2 from rfl, putL_lt (by omega)]
  rfl
theorem tag98 : tagL K8z 0 ([1, 0, 2] ++ sealX) ≠ tagL K9 0 ([1, 0, 2] ++ sealX) := by
  unfold sealX
  decide +kernel
theorem seal9 : ∃ x0 x1 t0 t1 t2 t3 t4 t5 t6 t7, sealX = [x0, x1] ∧ tagL K9 0 ([1, 0, 2] ++ sealX) = [t0, t1, t2, t3, t4, t5, t6, t7] ∧ sealL K9 1 0 [97, 98] = [1, 0, 2, x0, x1, t0, t1, t2, t3, t4, t5, t6, t7] := by
  refine ⟨_, _, _, _, _, _, _, _, _, _, rfl, rfl, ?_⟩
  unfold sealL
  rw [sealB9]
  rfl
theorem seal9_len : (sealL K9 1 0 [97, 98]).length = 13 := by
  obtain ⟨x0, x1, t0, t1, t2, t3, t4, t5, t6, t7, _, _, h⟩ := seal9
  rw [h]; rfl
theorem get9 (place : Int) : getP K9 (sealL K9 1 0 [97, 98]) 0 place = if (0 : Int) ≠ place then failR 0 2 else ⟨1, 0, false, [97, 98], 13, 0⟩ := by
  have h := getP_seal K9 [] [] 1 0 [97, 98] place (by decide) (by decide) (by omega) (by decide)
  rw [List.append_nil, List.nil_append, seal9_len] at h
  exact h
theorem get8 : getP K8z (sealL K9 1 0 [97, 98]) 0 0 = failR 0 4 := by
  have hne := tag98
  obtain ⟨x0, x1, t0, t1, t2, t3, t4, t5, t6, t7, hx, ht, h⟩ := seal9
  rw [ht, hx] at hne
  rw [h]
  have e1 : numL [1, 0, 2, x0, x1, t0, t1, t2, t3, t4, t5, t6, t7] (0 + 1) 1048576 = (0, 2, 0) := rfl
  have e2 : numL [1, 0, 2, x0, x1, t0, t1, t2, t3, t4, t5, t6, t7] 2 12100 = (2, 3, 0) := rfl
  unfold getP
  rw [if_neg (by simp), if_neg (by simp), e1]
  dsimp only
  rw [e2]
  dsimp only
  rw [if_neg (by simp), if_neg (by simp), if_neg (by simp), if_pos (by exact hne)]
theorem get12 : getP K9 ((sealL K9 1 0 [97, 98]).take 12) 0 0 = failR 0 5 := by
  obtain ⟨x0, x1, t0, t1, t2, t3, t4, t5, t6, t7, hx, ht, h⟩ := seal9
  rw [h]
  have e1 : numL ([1, 0, 2, x0, x1, t0, t1, t2, t3, t4, t5, t6, t7].take 12) (0 + 1) 1048576 = (0, 2, 0) := rfl
  have e2 : numL ([1, 0, 2, x0, x1, t0, t1, t2, t3, t4, t5, t6, t7].take 12) 2 12100 = (2, 3, 0) := rfl
  unfold getP
  rw [if_neg (by simp), if_neg (by simp), e1]
  dsimp only
  rw [e2]
  dsimp only
  rw [if_neg (by simp), if_neg (by simp), if_pos (by simp)]
theorem getP_end (k : K8) (b : List UInt8) (place : Int) : getP k b b.length place = failR b.length 5 := by
  unfold getP
  rw [if_pos rfl]
theorem all9 : allP K9 (sealL K9 1 0 [97, 98]) ((sealL K9 1 0 [97, 98]).length + 1 - 0) [] 0 = ([⟨1, 0, false, [97, 98], 13, 0⟩], 13, 5) := by
  have h1 := get9 0
  rw [if_neg (by simp)] at h1
  have h2 := getP_end K9 (sealL K9 1 0 [97, 98]) 1
  rw [seal9_len] at h2 ⊢
  rw [show 13 + 1 - 0 = 12 + 1 + 1 by omega, allP, List.length_nil, show (((0 : Nat) : Int)) = 0 from rfl, h1, if_neg (by simp), if_neg (by simp), allP, List.nil_append, List.length_singleton, show (((1 : Nat) : Int)) = 1 from rfl]
  dsimp only
  rw [h2, if_pos (by simp [failR])]
  rfl
end Go.Proofs.Ytcdklmicbbcknaa
