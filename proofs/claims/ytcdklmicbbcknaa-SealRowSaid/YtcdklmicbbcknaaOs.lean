/-
  Arguments opened: a segment, a slice of segments.
-/
import Derived.Test.YtcdklmicbbcknaaOp
import Derived.Test.YtcdklmicbbcknaaSq
import Derived.Test.YtcdklmicbbcknaaSm
import Derived.Lib.SmallJoins
import Derived.Deep.Slices
namespace Go.Proofs.Ytcdklmicbbcknaa
open Go Go.RowKit Go.ChangeShapes Go.WideShapes Go.ChangeAt
section
variable {P : Program} {H : Type} {enc : TypeId × Value → H} {w : World} {r : Reach} {base : Nat} {t e : TypeId} {v : Value} {d : DataW H} {p : List MemPlace}
theorem bytes_cells {fuel : Nat} {cs : List Value} {x : DataW H × List MemPlace} (ht : P.underlying t = some (.slice e)) (he : P.underlying e = some (.int .u8)) (hc : P.cellsOf e = 1)
    (hf : DataW.trod enc P w 0 (fun _ => true) true fuel t cs = some x) : ∃ (A : Option Addr) (l : List UInt8) (c : Nat), cs = [.slice A l.length c] ∧ Bts w A l ∧ l.length ≤ c ∧ c ≤ maxLen := by
  rcases open_ints ht he hc hf with ⟨hcs, _⟩ | ⟨x, len, cap, zs, rfl, _, hl, hm, hz, _, hcell, hwz⟩
  · exact ⟨none, [], 0, hcs, Bts.nil _ _, by simp, by simp⟩
  · simp only [if_true] at hz
    have hlen : ((zs.take len).map fun x => UInt8.ofNat x.toNat).length = len := by simp [hz]; omega
    refine ⟨some x, (zs.take len).map fun x => UInt8.ofNat x.toNat, cap, by rw [hlen], fun h0 => ?_, by rw [hlen]; exact hl, hm⟩
    rw [hlen] at h0 ⊢
    have h1 := hcell 0 (by omega)
    have hspot : x.spot = none := by
      have := World.cell?_spot h1
      simpa [Addr.add] using this
    obtain ⟨b, o, sp⟩ := x
    simp only at hspot
    subst hspot
    refine ⟨b, o, rfl, by have := World.block_lt_of_cell? w _ h1; simpa [Addr.add] using this, fun j hj => ?_⟩
    have h2 := hcell j (by omega)
    have hj' : j < zs.length := by omega
    have e1 : (⟨b, o, none⟩ : Addr).add j = ⟨b, o + j, none⟩ := by
      unfold Addr.add; split
      · subst_vars; rfl
      · rfl
    rw [e1] at h2
    rw [h2, List.getD_eq_getElem?_getD, List.getElem?_eq_getElem hj', List.getD_eq_getElem?_getD, List.getElem?_map, List.getElem?_take, if_pos hj, List.getElem?_eq_getElem hj']
    simp only [Option.map_some, Option.getD_some]
    have hwf := hwz _ (List.getElem_mem hj')
    have := wf_u8 hwf
    congr 2
    rw [UInt8.toNat_ofNat']
    omega
end
instance : Inhabited SegV := ⟨⟨0, 0, false, none, [], 0⟩⟩
/-- a segment of an argument: in its bounds, its bytes are there -/
def SegOk (w : World) (s : SegV) : Prop := Bts w s.A s.body ∧ s.body.length ≤ s.c ∧ s.c ≤ maxLen ∧ (-9223372036854775808 ≤ s.kind ∧ s.kind < 9223372036854775808) ∧ (-9223372036854775808 ≤ s.place ∧ s.place < 9223372036854775808)
section
variable {H : Type} {enc : TypeId × Value → H} {w : World} {r : Reach} {base : Nat} {t e : TypeId} {v : Value} {d : DataW H} {p : List MemPlace}
theorem seg_cells {fuel : Nat} {cs : List Value} {x : DataW H × List MemPlace} (hf : DataW.trod enc Try.prog w 0 (fun _ => true) true fuel 81 cs = some x) : ∃ s : SegV, cs = s.cells ∧ SegOk w s := by
  obtain ⟨f0, f1, f2, f3, hs, h0, h1, h2, h3, o0, o1, o2, o3⟩ : ∃ f0 f1 f2 f3 : Field, Try.prog.underlying 81 = some (.struct #[f0, f1, f2, f3]) ∧ f0.type = 3 ∧ f1.type = 3 ∧ f2.type = 4 ∧ f3.type = 24 ∧ f0.offset = 0 ∧ f1.offset = 1 ∧ f2.offset = 2 ∧ f3.offset = 3 := ⟨_, _, _, _, Try.underlying81, rfl, rfl, rfl, rfl, rfl, rfl, rfl, rfl⟩
  obtain ⟨y0, y1, y2, y3, n, _, hlen, g0, g1, g2, g3⟩ := Go.Joins.trod_struct4 hs hf
  have c3 : Try.prog.cellsOf 3 = 1 := by kernel_rfl
  have c4 : Try.prog.cellsOf 4 = 1 := by kernel_rfl
  have c24 : Try.prog.cellsOf 24 = 1 := by kernel_rfl
  have c81 : Try.prog.cellsOf 81 = 4 := by kernel_rfl
  have c5 : Try.prog.cellsOf 5 = 1 := by kernel_rfl
  rw [c81] at hlen
  rw [h0, o0, c3] at g0
  rw [h1, o1, c3] at g1
  rw [h2, o2, c4] at g2
  rw [h3, o3, c24] at g3
  match cs, hlen with
  | [v0, v1, v2, v3], _ =>
    obtain ⟨kd, e0, _, w0⟩ := DataW.trod_int Try.underlying3 g0
    obtain ⟨pl, e1, _, w1⟩ := DataW.trod_int Try.underlying3 g1
    obtain ⟨la, e2, _⟩ := DataW.trod_bool Try.underlying4 g2
    obtain ⟨A, l, c, e3, hB, hl, hc⟩ := bytes_cells Try.underlying24 Try.underlying5 c5 g3
    simp at e0 e1 e2 e3
    subst e0 e1 e2 e3
    exact ⟨⟨kd, pl, la, A, l, c⟩, rfl, hB, hl, hc, wf_i64 w0, wf_i64 w1⟩
set_option maxRecDepth 100000 in
theorem open_seg (hok : Value.okWide Try.prog w r base 81 v) (h : DataW.Trod enc Try.prog w 0 (fun _ => true) true 81 v d p) : ∃ s : SegV, v = .agg s.cells.toArray ∧ SegOk w s := by
  obtain ⟨cs, rfl, _⟩ := okWide_struct Try.underlying81 hok
  obtain ⟨fuel, hf⟩ := h
  obtain ⟨s, hs, hso⟩ := seg_cells hf
  refine ⟨s, ?_, hso⟩
  have : cs.toList = s.cells := by simpa [Value.cells] using hs
  rw [← this]
set_option maxRecDepth 100000 in
theorem open_segs (hok : Value.okWide Try.prog w r base 75 v) (h : DataW.Trod enc Try.prog w 0 (fun _ => true) true 75 v d p) :
    ∃ (A : Option Addr) (l : List SegV) (c : Nat), v = .slice A l.length c ∧ Sgs w A l ∧ (∀ s ∈ l, SegOk w s) ∧ l.length ≤ c ∧ c ≤ maxLen := by
  obtain ⟨a, len, cap, rfl⟩ := okWide_slice Try.underlying75 hok
  obtain ⟨fuel, hf⟩ := h
  have c81 : Try.prog.cellsOf 81 = 4 := by kernel_rfl
  rcases Go.Deep.open_slice Try.underlying75 hf with ⟨hcs, _⟩ | ⟨x, l, c, m, n, D, Pl, hcs, _, hl, hm, hmm, _, hx⟩
  · simp [Value.cells] at hcs
    obtain ⟨rfl, rfl, rfl⟩ := hcs
    exact ⟨none, [], 0, rfl, fun h0 => absurd h0 (by simp), by simp, by simp, by simp⟩
  · simp [Value.cells] at hcs
    obtain ⟨rfl, rfl, rfl⟩ := hcs
    simp only [if_true] at hmm
    have each : ∀ i, i < len → ∃ s : SegV, (∀ q, q < 4 → w.cell? (x.add (i * 4 + q)) = s.cells[q]?) ∧ SegOk w s := fun i hi => by
      obtain ⟨cs', h1, h2⟩ := hx i (by omega)
      rw [c81] at h1
      obtain ⟨_, hlen, hcell⟩ := World.cells?_some h1
      obtain ⟨s, rfl, hso⟩ := seg_cells h2
      refine ⟨s, fun q hq => ?_, hso⟩
      rw [← hcell q hq, Go.Deep.add_add]
    obtain ⟨f, hfs⟩ := Go.Deep.choose_lt each
    refine ⟨some x, (List.range len).map f, cap, by simp, fun h0 => ?_, fun s hs => ?_, by simpa using hl, hm⟩
    · have hlen0 : 0 < len := by simpa using h0
      have h1 := (hfs 0 hlen0).1 0 (by omega)
      have h1' : w.cell? (x.add (0 * 4 + 0)) = some (.int .i64 (f 0).kind) := h1
      have hspot : x.spot = none := by
        have := World.cell?_spot h1'
        simpa [Addr.add] using this
      obtain ⟨b, o, sp⟩ := x
      simp only at hspot
      subst hspot
      refine ⟨b, o, rfl, by have := World.block_lt_of_cell? w _ h1'; simpa [Addr.add] using this, fun j u hj => ?_⟩
      have hj' : j < len * 4 := by
        have hq := segCells_len ((List.range len).map f)
        rcases Nat.lt_or_ge j (segCells ((List.range len).map f)).length with h | h
        · rw [hq] at h; simpa using h
        · rw [List.getElem?_eq_none h] at hj; cases hj
      have h4 := segCells_get ((List.range len).map f) (j / 4) (by simp; omega) (j % 4) (by omega)
      rw [show 4 * (j / 4) + j % 4 = j by omega, hj] at h4
      have h5 := (hfs (j / 4) (by omega)).1 (j % 4) (by omega)
      rw [show j / 4 * 4 + j % 4 = j by omega, add_plain] at h5
      rw [h5, h4]
      simp
    · obtain ⟨i, hi, rfl⟩ := List.mem_map.1 hs
      exact (hfs i (by simpa using hi)).2
end
end Go.Proofs.Ytcdklmicbbcknaa
