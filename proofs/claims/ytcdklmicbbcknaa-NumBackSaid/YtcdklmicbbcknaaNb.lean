/-
  Numbers one behind the other as bytes; a slice of words that reads as a list, and such an argument opened.
-/
import Derived.Test.YtcdklmicbbcknaaNt
import Derived.Test.YtcdklmicbbcknaaOp
namespace Go.Proofs.Ytcdklmicbbcknaa
open Go Go.RowKit
def catL : List Nat → List UInt8
  | [] => []
  | v :: l => putL v ++ catL l
theorem catL_snoc : ∀ (l : List Nat) (v : Nat), catL (l ++ [v]) = catL l ++ putL v
  | [], v => by simp [catL]
  | x :: l, v => by simp [catL, catL_snoc l v]
theorem catL_app : ∀ (l m : List Nat), catL (l ++ m) = catL l ++ catL m
  | [], m => rfl
  | x :: l, m => by simp [catL, catL_app l m]
theorem take_succ_getD (l : List Nat) (i : Nat) (hi : i < l.length) : l.take (i + 1) = l.take i ++ [l.getD i 0] := by
  rw [List.take_succ_eq_append_getElem hi, List.getD_eq_getElem?_getD, List.getElem?_eq_getElem hi]; rfl
theorem catL_take (l : List Nat) (i : Nat) (hi : i < l.length) : catL (l.take (i + 1)) = catL (l.take i) ++ putL (l.getD i 0) := by
  rw [take_succ_getD l i hi, catL_snoc]
theorem catL_split (l : List Nat) (i : Nat) (hi : i < l.length) : catL l = catL (l.take i) ++ (putL (l.getD i 0) ++ catL (l.drop (i + 1))) := by
  have h := catL_app (l.take (i + 1)) (l.drop (i + 1))
  rw [List.take_append_drop, catL_take l i hi, List.append_assoc] at h
  exact h
theorem nb_get (a : List UInt8) (l : List Nat) (i : Nat) (hi : i < l.length) (hv : l.getD i 0 ≤ 18446744073709551615) :
    getL (a ++ catL l) (a ++ catL (l.take i)).length = (l.getD i 0, (a ++ catL (l.take (i + 1))).length, 0) := by
  have hd : (a ++ catL l).drop (a ++ catL (l.take i)).length = putL (l.getD i 0) ++ catL (l.drop (i + 1)) := by
    rw [catL_split l i hi, ← List.append_assoc, List.drop_left]
  unfold getL
  rw [read_put _ _ _ _ hd hv, catL_take l i hi]
  simp only [List.length_append]
  rw [if_neg (by omega), Nat.add_assoc]
theorem nb_cut (a : List UInt8) (l : List Nat) (i q : Nat) (hi : i + 1 = l.length) (hv : l.getD i 0 ≤ 18446744073709551615) (hq : q < (putL (l.getD i 0)).length) :
    getL ((a ++ catL l).take ((a ++ catL (l.take i)).length + q)) (a ++ catL (l.take i)).length = (0, (a ++ catL (l.take i)).length, 3) := by
  have hd : ((a ++ catL l).take ((a ++ catL (l.take i)).length + q)).drop (a ++ catL (l.take i)).length = (putL (l.getD i 0)).take q := by
    rw [List.drop_take, catL_split l i (by omega), ← List.append_assoc, List.drop_left, show (a ++ catL (l.take i)).length + q - (a ++ catL (l.take i)).length = q by omega, List.drop_eq_nil_of_le (by omega)]
    simp [catL]
  have hX : (a ++ catL (l.take i)).length + q ≤ (a ++ catL l).length := by
    rw [catL_split l i (by omega)]
    simp only [List.length_append]; omega
  unfold getL
  rw [read_cut _ _ _ q hd (by rw [List.length_take]; omega) hq hv]
  rfl
/-- a slice of words that reads as a list -/
def Wds (w : World) (A : Option Addr) (l : List Nat) : Prop :=
  0 < l.length → ∃ b o, A = some ⟨b, o, none⟩ ∧ b < w.heap.size ∧ ∀ j, j < l.length → w.cell? ⟨b, o + j, none⟩ = some (.int .u64 ((l.getD j 0 : Nat) : Int))
theorem Wds.below {w w' : World} {A : Option Addr} {l : List Nat} (h : Wds w A l) {B : Nat} (hb : Below B w w') (hB : B = w.heap.size) : Wds w' A l := fun h0 => by
  subst hB
  obtain ⟨b, o, e, hlt, hc⟩ := h h0
  exact ⟨b, o, e, Nat.lt_of_lt_of_le hlt hb.size, fun j hj => (hb.cell (p := ⟨b, o + j, none⟩) hlt).trans (hc j hj)⟩
section
open Go.ChangeShapes Go.WideShapes Go.ChangeAt
variable {P : Program} {H : Type} {enc : TypeId × Value → H} {w : World} {r : Reach} {base : Nat} {t e : TypeId} {v : Value} {d : DataW H} {p : List MemPlace}
theorem open_words (ht : P.underlying t = some (.slice e)) (he : P.underlying e = some (.int .u64)) (hc : P.cellsOf e = 1) (hok : Value.okWide P w r base t v)
    (h : DataW.Trod enc P w 0 (fun _ => true) true t v d p) : ∃ (A : Option Addr) (l : List Nat) (c : Nat), v = .slice A l.length c ∧ (Wds w A l ∧ ∀ j, l.getD j 0 ≤ 18446744073709551615) ∧ l.length ≤ c ∧ c ≤ maxLen := by
  obtain ⟨a, len, cap, rfl⟩ := okWide_slice ht hok
  obtain ⟨fuel, hf⟩ := h
  rcases open_ints ht he hc hf with ⟨hcs, _⟩ | ⟨x, l, c, zs, hcs, _, hl, hm, hz, _, hcell, hwz⟩
  · simp [Value.cells] at hcs
    obtain ⟨rfl, rfl, rfl⟩ := hcs
    exact ⟨none, [], 0, rfl, ⟨fun h0 => absurd h0 (by simp), by simp⟩, by simp, by simp⟩
  · simp [Value.cells] at hcs
    obtain ⟨rfl, rfl, rfl⟩ := hcs
    simp only [if_true] at hz
    have hlen : ((zs.take len).map fun x => x.toNat).length = len := by simp [hz]; omega
    have hget : ∀ j, j < len → ((zs.take len).map fun x => x.toNat).getD j 0 = (zs.getD j 0).toNat := fun j hj => by
      have hj' : j < zs.length := by omega
      rw [List.getD_eq_getElem?_getD, List.getElem?_map, List.getElem?_take, if_pos hj, List.getD_eq_getElem?_getD, List.getElem?_eq_getElem hj']; rfl
    have hbd : ∀ j, j < len → 0 ≤ zs.getD j 0 ∧ zs.getD j 0 < 18446744073709551616 := fun j hj => by
      have hj' : j < zs.length := by omega
      rw [List.getD_eq_getElem?_getD, List.getElem?_eq_getElem hj']
      have := wf_u64 (hwz _ (List.getElem_mem hj'))
      simp only [Option.getD_some]; omega
    refine ⟨some x, (zs.take len).map fun x => x.toNat, cap, by rw [hlen], ⟨fun h0 => ?_, fun j => ?_⟩, by rw [hlen]; exact hl, hm⟩
    · rw [hlen] at h0 ⊢
      have h1 := hcell 0 (by omega)
      have hspot : x.spot = none := by
        have := World.cell?_spot h1
        simpa [Addr.add] using this
      obtain ⟨b, o, sp⟩ := x
      simp only at hspot
      subst hspot
      refine ⟨b, o, rfl, by have := World.block_lt_of_cell? w _ h1; simpa [Addr.add] using this, fun j hj => ?_⟩
      have h2 := hcell j (by omega)
      have e1 : (⟨b, o, none⟩ : Addr).add j = ⟨b, o + j, none⟩ := by
        unfold Addr.add; split
        · subst_vars; rfl
        · rfl
      rw [e1] at h2
      rw [h2, hget j hj]
      have := hbd j hj
      congr 2
      omega
    · by_cases hj : j < len
      · rw [hget j hj]; have := hbd j hj; omega
      · rw [List.getD_eq_getElem?_getD, List.getElem?_eq_none (by rw [hlen]; omega)]; simp
end
end Go.Proofs.Ytcdklmicbbcknaa
