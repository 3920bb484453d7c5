/-
  seal.Get as a plain function; a sealed segment is read again. No program in sight (but for the plain laws' texts).
-/
import Derived.Test.YtcdklmicbbcknaaSp
import Derived.Test.YtcdklmicbbcknaaSn
namespace Go.Proofs.Ytcdklmicbbcknaa
open Go Go.RowKit
/-- what seal.Get returns: the segment, where it ends, a code -/
structure GetR where
  (kind place : Nat) (last : Bool) (body : List UInt8) (to code : Nat)
def failR (at_ code : Nat) : GetR := ⟨0, 0, false, [], at_, code⟩
def getP (k : K8) (b : List UInt8) (at_ : Nat) (place : Int) : GetR :=
  if at_ = b.length then failR at_ 5
  else if (b.getD at_ 0).toNat < 1 ∨ 3 < (b.getD at_ 0).toNat then failR at_ 3
  else if (numL b (at_ + 1) 1048576).2.2 ≠ 0 then failR at_ (numL b (at_ + 1) 1048576).2.2
  else if (numL b (numL b (at_ + 1) 1048576).2.1 12100).2.2 ≠ 0 then failR at_ (numL b (numL b (at_ + 1) 1048576).2.1 12100).2.2
  else
    let P := (numL b (at_ + 1) 1048576).1
    let n := (numL b (numL b (at_ + 1) 1048576).2.1 12100).1
    let t := (numL b (numL b (at_ + 1) 1048576).2.1 12100).2.1
    if b.length - t < n + 8 then failR at_ 5
    else if tagL k P ((b.drop at_).take (t + n - at_)) ≠ (b.drop (t + n)).take 8 then failR at_ 4
    else if (P : Int) ≠ place then failR at_ 2
    else ⟨(b.getD at_ 0).toNat, P, decide ((b.getD at_ 0).toNat = 3), xorL (streamL k P n) ((b.drop t).take n), t + n + 8, 0⟩
theorem numL_put (b : List UInt8) (at_ v most : Nat) (rest : List UInt8) (hd : b.drop at_ = putL v ++ rest) (hv : v ≤ most) (hm : most ≤ 18446744073709551615) : numL b at_ most = (v, at_ + (putL v).length, 0) := by
  unfold numL
  rw [read_put b at_ v rest hd (by omega)]
  simp only [Prod.mk.injEq, true_and]
  rw [if_neg (by omega)]
theorem drop_app {α : Type} (a b : List α) : (a ++ b).drop a.length = b := List.drop_left
theorem sealB_len (k : K8) (y : UInt8) (P : Nat) (l : List UInt8) : (sealB k y P l).length = 1 + (putL P).length + (putL l.length).length + l.length := by
  unfold sealB
  simp only [List.length_append, List.length_singleton, xorL_len2]
theorem getP_seal (k : K8) (pre post : List UInt8) (y : UInt8) (P : Nat) (l : List UInt8) (place : Int) (hy1 : 1 ≤ y.toNat) (hy3 : y.toNat ≤ 3) (hP : P ≤ 1048576) (hl : l.length ≤ 12100) :
    getP k (pre ++ (sealL k y P l ++ post)) pre.length place = if (P : Int) ≠ place then failR pre.length 2 else ⟨y.toNat, P, decide (y.toNat = 3), l, pre.length + (sealL k y P l).length, 0⟩ := by
  have hb : pre ++ (sealL k y P l ++ post) = pre ++ (y :: (putL P ++ (putL l.length ++ (xorL (streamL k P l.length) l ++ (tagL k P (sealB k y P l) ++ post))))) := by
    simp [sealL, sealB, List.append_assoc]
  have hlen : (pre ++ (sealL k y P l ++ post)).length = pre.length + (1 + (putL P).length + (putL l.length).length + l.length + 8 + post.length) := by
    simp only [List.length_append, sealL, sealB_len, tagL_len]
  have hg : (pre ++ (sealL k y P l ++ post)).getD pre.length 0 = y := by
    rw [hb]; exact (getD_drop _ _ _ _ (drop_app _ _)).1
  have hd1 : (pre ++ (sealL k y P l ++ post)).drop (pre.length + 1) = putL P ++ (putL l.length ++ (xorL (streamL k P l.length) l ++ (tagL k P (sealB k y P l) ++ post))) := by
    rw [hb]; exact (getD_drop _ _ _ _ (drop_app _ _)).2.2
  have hN1 := numL_put _ _ P 1048576 _ hd1 hP (by omega)
  have hd2 : (pre ++ (sealL k y P l ++ post)).drop (pre.length + 1 + (putL P).length) = putL l.length ++ (xorL (streamL k P l.length) l ++ (tagL k P (sealB k y P l) ++ post)) := by
    rw [← List.drop_drop, hd1, List.drop_left]
  have hN2 := numL_put _ _ l.length 12100 _ hd2 hl (by omega)
  have hd3 : (pre ++ (sealL k y P l ++ post)).drop (pre.length + 1 + (putL P).length + (putL l.length).length) = xorL (streamL k P l.length) l ++ (tagL k P (sealB k y P l) ++ post) := by
    rw [← List.drop_drop, hd2, List.drop_left]
  have hxl : (xorL (streamL k P l.length) l).length = l.length := xorL_len2 k P l
  have hd4 : (pre ++ (sealL k y P l ++ post)).drop (pre.length + 1 + (putL P).length + (putL l.length).length + l.length) = tagL k P (sealB k y P l) ++ post := by
    rw [← List.drop_drop, hd3]
    have : (xorL (streamL k P l.length) l ++ (tagL k P (sealB k y P l) ++ post)).drop (xorL (streamL k P l.length) l).length = tagL k P (sealB k y P l) ++ post := List.drop_left
    rwa [hxl] at this
  have hd5 : ((pre ++ (sealL k y P l ++ post)).drop pre.length).take (pre.length + 1 + (putL P).length + (putL l.length).length + l.length - pre.length) = sealB k y P l := by
    rw [drop_app, sealL, List.append_assoc, show pre.length + 1 + (putL P).length + (putL l.length).length + l.length - pre.length = (sealB k y P l).length by rw [sealB_len]; omega, List.take_left]
  have hd6 : ((pre ++ (sealL k y P l ++ post)).drop (pre.length + 1 + (putL P).length + (putL l.length).length + l.length)).take 8 = tagL k P (sealB k y P l) := by
    rw [hd4]
    have : (tagL k P (sealB k y P l) ++ post).take (tagL k P (sealB k y P l)).length = tagL k P (sealB k y P l) := List.take_left
    rwa [tagL_len] at this
  have hd7 : ((pre ++ (sealL k y P l ++ post)).drop (pre.length + 1 + (putL P).length + (putL l.length).length)).take l.length = xorL (streamL k P l.length) l := by
    rw [hd3]
    have : (xorL (streamL k P l.length) l ++ (tagL k P (sealB k y P l) ++ post)).take (xorL (streamL k P l.length) l).length = xorL (streamL k P l.length) l := List.take_left
    rwa [hxl] at this
  have hsl : (sealL k y P l).length = 1 + (putL P).length + (putL l.length).length + l.length + 8 := by
    rw [sealL, List.length_append, sealB_len, tagL_len]
  unfold getP
  rw [if_neg (by omega), hg, if_neg (by omega), hN1]
  dsimp only
  rw [hN2]
  dsimp only
  rw [if_neg (by omega), if_neg (by omega), if_neg (by omega), hd5, hd6, if_neg (by simp), hd7]
  by_cases hp : (P : Int) = place
  · rw [if_neg (by simp [hp]), if_neg (by simp [hp])]
    have hx : xorL (streamL k P l.length) (xorL (streamL k P l.length) l) = l := xorL_back _ _ (by rw [streamL_len])
    rw [hx]
    congr 1
    omega
  · rw [if_pos (by simpa using hp), if_pos (by simpa using hp)]
end Go.Proofs.Ytcdklmicbbcknaa
