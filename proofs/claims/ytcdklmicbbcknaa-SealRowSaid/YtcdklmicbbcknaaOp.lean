/-
  A law's arguments opened: keys, rows of eight bytes, slices of bytes.
-/
import Derived.Test.YtcdklmicbbcknaaMf
import Derived.OpenShut
import Derived.ProofKit
namespace Go.Proofs.Ytcdklmicbbcknaa
open Go Go.ChangeShapes Go.WideShapes Go.ChangeAt Go.RowKit

section
variable {H : Type} {enc : TypeId × Value → H} {P : Program} {w : World} {r : Reach} {base : Nat} {t e : TypeId} {v : Value} {d : DataW H} {p : List MemPlace}

theorem open_arr {n : Nat} {k : IntKind} (ht : P.underlying t = some (.array n e)) (he : P.underlying e = some (.int k)) (hc : P.cellsOf e = 1) (hct : P.cellsOf t = n) (hok : Value.okWide P w r base t v)
    (h : DataW.Trod enc P w 0 (fun _ => true) true t v d p) : ∃ xs : List Int, xs.length = n ∧ v = .agg (xs.map (Value.int k)).toArray ∧ ∀ x ∈ xs, (Lit.int k x).wf = true := by
  simp only [Value.okWide, ht] at hok
  obtain ⟨cs, rfl, hsz, _⟩ := hok
  obtain ⟨fuel, hf⟩ := h
  obtain ⟨xs, m, _, _, _, hlen, hg⟩ := DataW.trod_array ht hf
  rw [hc] at hg
  have hcell : ∀ i (hi : i < n), ∃ z, cs[i]? = some (.int k z) ∧ (Lit.int k z).wf = true := fun i hi => by
    have h1 := hg i hi
    rw [List.getElem?_eq_getElem (by omega)] at h1
    obtain ⟨z, hz, _, hwf⟩ := DataW.trod_int he h1
    refine ⟨z, ?_, hwf⟩
    have h0 := congrArg (·[0]?) hz
    simp only [List.getElem?_cons_zero, List.getElem?_take, Nat.lt_one_iff, if_true, List.getElem?_drop, Nat.mul_one, Nat.add_zero] at h0
    simpa [Value.cells] using h0
  have key : ∀ m, m ≤ n → ∃ ys : List Int, ys.length = m ∧ cs.toList.take m = ys.map (Value.int k) ∧ ∀ x ∈ ys, (Lit.int k x).wf = true := by
    intro m
    induction m with
    | zero => intro _; exact ⟨[], rfl, by simp, by simp⟩
    | succ m ih =>
      intro hm
      obtain ⟨ys, h1, h2, h3⟩ := ih (by omega)
      obtain ⟨z, hz, hwf⟩ := hcell m (by omega)
      refine ⟨ys ++ [z], by simp [h1], ?_, ?_⟩
      · have hz' : cs.toList[m]? = some (.int k z) := by simpa using hz
        rw [List.take_add_one, h2, hz']; simp
      · intro x hx
        rcases List.mem_append.1 hx with hx | hx
        · exact h3 x hx
        · obtain rfl : x = z := by simpa using hx
          exact hwf
  obtain ⟨ys, h1, h2, h3⟩ := key n (Nat.le_refl _)
  refine ⟨ys, h1, ?_, h3⟩
  rw [← h2, List.take_of_length_le (by simp [hsz, hct])]

theorem wf_u32 {x : Int} (h : (Lit.int .u32 x).wf = true) : 0 ≤ x ∧ x < 4294967296 := by
  simp [Lit.wf, IntKind.min, IntKind.max, IntKind.signed, IntKind.bits] at h; omega
theorem wf_u8 {x : Int} (h : (Lit.int .u8 x).wf = true) : 0 ≤ x ∧ x < 256 := by
  simp [Lit.wf, IntKind.min, IntKind.max, IntKind.signed, IntKind.bits] at h; omega
theorem wf_u64 {x : Int} (h : (Lit.int .u64 x).wf = true) : 0 ≤ x ∧ x < 18446744073709551616 := by
  simp [Lit.wf, IntKind.min, IntKind.max, IntKind.signed, IntKind.bits] at h; omega
theorem wf_i64 {x : Int} (h : (Lit.int .i64 x).wf = true) : -9223372036854775808 ≤ x ∧ x < 9223372036854775808 := by
  simp [Lit.wf, IntKind.min, IntKind.max, IntKind.signed, IntKind.bits] at h; omega
theorem W_of {x : Int} (h : 0 ≤ x ∧ x < 4294967296) : W (BitVec.ofInt 32 x) = x := by rw [W_ofInt]; omega
theorem B_of {x : Int} (h : 0 ≤ x ∧ x < 256) : ((UInt8.ofNat x.toNat).toNat : Int) = x := by
  rw [UInt8.toNat_ofNat']; omega

theorem open_key (ht : P.underlying t = some (.array 8 e)) (he : P.underlying e = some (.int .u32)) (hc : P.cellsOf e = 1) (hct : P.cellsOf t = 8) (hok : Value.okWide P w r base t v)
    (h : DataW.Trod enc P w 0 (fun _ => true) true t v d p) : ∃ k : K8, v = .agg k.vals.toArray := by
  obtain ⟨xs, hl, rfl, hw⟩ := open_arr ht he hc hct hok h
  match xs, hl with
  | [a0, a1, a2, a3, a4, a5, a6, a7], _ =>
    refine ⟨⟨.ofInt 32 a0, .ofInt 32 a1, .ofInt 32 a2, .ofInt 32 a3, .ofInt 32 a4, .ofInt 32 a5, .ofInt 32 a6, .ofInt 32 a7⟩, ?_⟩
    simp only [K8.vals]
    rw [W_of (wf_u32 (hw a0 (by simp))), W_of (wf_u32 (hw a1 (by simp))), W_of (wf_u32 (hw a2 (by simp))), W_of (wf_u32 (hw a3 (by simp))), W_of (wf_u32 (hw a4 (by simp))), W_of (wf_u32 (hw a5 (by simp))), W_of (wf_u32 (hw a6 (by simp))), W_of (wf_u32 (hw a7 (by simp)))]
    rfl

theorem bvals_of (xs : List Int) (hw : ∀ x ∈ xs, 0 ≤ x ∧ x < 256) : bvals (xs.map fun x => UInt8.ofNat x.toNat) = xs.map (Value.int .u8) := by
  induction xs with
  | nil => rfl
  | cons x xs ih =>
    have := B_of (hw x (by simp))
    simp only [bvals, List.map_cons, this]
    rw [show List.map (fun b : UInt8 => Value.int .u8 (b.toNat : Int)) (List.map (fun x : Int => UInt8.ofNat x.toNat) xs) = bvals (xs.map fun x => UInt8.ofNat x.toNat) from rfl, ih (fun y hy => hw y (by simp [hy]))]

theorem open_tag (ht : P.underlying t = some (.array 8 e)) (he : P.underlying e = some (.int .u8)) (hc : P.cellsOf e = 1) (hct : P.cellsOf t = 8) (hok : Value.okWide P w r base t v)
    (h : DataW.Trod enc P w 0 (fun _ => true) true t v d p) : ∃ l : List UInt8, l.length = 8 ∧ v = .agg (bvals l).toArray := by
  obtain ⟨xs, hl, rfl, hw⟩ := open_arr ht he hc hct hok h
  exact ⟨xs.map fun x => UInt8.ofNat x.toNat, by simpa using hl, by rw [bvals_of xs (fun x hx => wf_u8 (hw x hx))]⟩

theorem open_bytes (ht : P.underlying t = some (.slice e)) (he : P.underlying e = some (.int .u8)) (hc : P.cellsOf e = 1) (hok : Value.okWide P w r base t v)
    (h : DataW.Trod enc P w 0 (fun _ => true) true t v d p) : ∃ (A : Option Addr) (l : List UInt8) (c : Nat), v = .slice A l.length c ∧ Bts w A l ∧ l.length ≤ c ∧ c ≤ maxLen := by
  obtain ⟨a, len, cap, rfl⟩ := okWide_slice ht hok
  obtain ⟨fuel, hf⟩ := h
  rcases open_ints ht he hc hf with ⟨hcs, _⟩ | ⟨x, l, c, zs, hcs, _, hl, hm, hz, _, hcell, hwz⟩
  · simp [Value.cells] at hcs
    obtain ⟨rfl, rfl, rfl⟩ := hcs
    exact ⟨none, [], 0, rfl, Bts.nil _ _, by simp, by simp⟩
  · simp [Value.cells] at hcs
    obtain ⟨rfl, rfl, rfl⟩ := hcs
    simp only [if_true] at hz
    have hlen : ((zs.take len).map fun x => UInt8.ofNat x.toNat).length = len := by simp [hz]; omega
    refine ⟨some x, (zs.take len).map fun x => UInt8.ofNat x.toNat, cap, by rw [hlen], fun h0 => ?_, by rw [hlen]; exact hl, hm⟩
    rw [hlen] at h0 ⊢
    have h1 := hcell 0 (by omega)
    have hspot : x.spot = none := by
      have := World.cell?_spot h1
      simpa [Addr.add] using this
    obtain ⟨b, o, sp⟩ := x
    simp only at hspot
    subst hspot
    refine ⟨b, o, rfl, by have := World.block_lt_of_cell? w _ h1; simpa [Addr.add] using this, fun j hj => ?_⟩
    have h2 := hcell j (by omega)
    have hj' : j < zs.length := by omega
    have e1 : (⟨b, o, none⟩ : Addr).add j = ⟨b, o + j, none⟩ := by
      unfold Addr.add; split
      · subst_vars; rfl
      · rfl
    rw [e1] at h2
    rw [h2, List.getD_eq_getElem?_getD, List.getElem?_eq_getElem hj', List.getD_eq_getElem?_getD, List.getElem?_map, List.getElem?_take, if_pos hj, List.getElem?_eq_getElem hj']
    simp only [Option.map_some, Option.getD_some]
    rw [B_of (wf_u8 (hwz _ (List.getElem_mem hj')))]
end
end Go.Proofs.Ytcdklmicbbcknaa
