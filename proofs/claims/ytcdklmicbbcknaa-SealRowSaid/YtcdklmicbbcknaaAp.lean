/-
  append of a string's bytes onto a row of bytes of the call's own; a string's slice.
-/
import Derived.Test.YtcdklmicbbcknaaXo
import Derived.Test.YtcdklmicbbcknaaEs
namespace Go.Proofs.Ytcdklmicbbcknaa
open Go Go.RowKit
theorem run_firstStr {P : Program} (l : List UInt8) (w : World) : (Builtin.firstCells 1 l.length (.string (mkStr l))).run P w = .ok (bvals l).toArray w := by
  have e : (mkStr l).extract 0 l.length = mkStr l := by
    have := ByteArray.extract_zero_size (b := mkStr l)
    exact this
  show (pure (Array.map (fun b => Value.int IntKind.u8 ↑b.toNat) ((mkStr l).extract 0 l.length).data) : Sem (Array Value)).run P w = _
  rw [e]
  simp [mkStr, bvals]
theorem run_sapp {w : World} {base : Nat} {A : Option Addr} {c : Nat} {l : List UInt8} (h : Own w base A c l) (m : List UInt8) (hlen : l.length + m.length ≤ 140737488355328) (hbase : base ≤ w.heap.size) (ty : TypeId) :
    ∃ A' c' w', (Builtin.append_ #[24, 9] ty #[.slice A l.length c, .string (mkStr m)]).run Try.prog w = .ok (.slice A' (l ++ m).length c') w' ∧ Own w' base A' c' (l ++ m) ∧ w.grownBy w' (blk A) := by
  obtain ⟨i, hi, hz, hs, hby⟩ := info_parts info5b
  have hf : ∀ w, (Builtin.firstCells 1 m.length (.string (mkStr m))).run Try.prog w = .ok (bvals m).toArray w := fun w => run_firstStr m w
  have hms : (mkStr m).size = m.length := mkStr_size m
  have hl2 : (bvals l ++ bvals m).length = (l.length + m.length) * 1 := by rw [List.length_append, bvals_len, bvals_len, Nat.mul_one]
  have grown : ∀ (old : Nat), old < l.length + m.length → ∀ (row : Option Nat),
      (w.drew.alloc (.cells ((bvals l).toArray ++ (bvals m).toArray ++ Builtin.zeroCells (Value.cells (.int .u8 0)) (grownCap w (l.length + m.length) old 5 - (l.length + m.length))) 5)).ownsRow base 5 1
        (.slice (some ⟨w.heap.size, 0, none⟩) (l.length + m.length) (grownCap w (l.length + m.length) old 5)) (l.length + m.length) (bvals l ++ bvals m) ∧
      w.grownBy (w.drew.alloc (.cells ((bvals l).toArray ++ (bvals m).toArray ++ Builtin.zeroCells (Value.cells (.int .u8 0)) (grownCap w (l.length + m.length) old 5 - (l.length + m.length))) 5)) row := by
    intro old ho row
    have hge := grownCap_ge w (l.length + m.length) old 5
    have hcm : grownCap w (l.length + m.length) old 5 ≤ maxLen := grownCap_le_maxLen w (l.length + m.length) old 5 (by simp only [maxLen]; omega)
    refine ⟨⟨hl2, .inr ⟨w.heap.size, _, _, rfl, hbase, heap_alloc_new w.drew _, hge, hcm, ?_, ?_⟩⟩, ⟨rfl, rfl, rfl, by simp, fun k hk _ => heap_alloc_old w.drew _ hk⟩⟩
    · simp only [Array.size_append, List.size_toArray, size_zeroCells, bvals_len]
      have : (Value.cells (.int .u8 0)).size = 1 := rfl
      rw [this]; omega
    · simp only [Array.toList_append, List.append_assoc]
      rw [← List.append_assoc, ← hl2]
      exact List.take_left
  have fin : ∀ (A' : Option Addr) (c' : Nat) (w' : World), w'.ownsRow base 5 1 (.slice A' (l.length + m.length) c') (l.length + m.length) (bvals l ++ bvals m) → Own w' base A' c' (l ++ m) := fun A' c' w' hr => by
    unfold Own
    rw [bvals_append, List.length_append]
    exact hr
  have hown := h
  rw [List.length_append]
  rcases h.2 with ⟨hv, h0⟩ | ⟨g, cap, cur, hv, hbg, hg, hnc, hcm, hcs, htake⟩
  · injection hv with e1 e2 e3
    subst e1 e3
    have hln : l = [] := List.eq_nil_of_length_eq_zero h0
    subst hln
    by_cases hm : m.length = 0
    · have hm0 : m = [] := List.eq_nil_of_length_eq_zero hm
      subst hm0
      refine ⟨none, 0, w, ?_, by simpa using hown, ⟨rfl, rfl, rfl, Nat.le_refl _, fun _ _ _ => rfl⟩⟩
      have hf0 := hf w
      simp [Builtin.append_, run_underlying Try.underlying24, run_underlying Try.underlying9, sizeOf, typeInfo, hi, hs, Builtin.lenOf, hms] at hf0 ⊢
      simp [hf0]
    · have h63' : ¬ (9223372036854775807 < (m.length : Int)) := by omega
      have h48' : ¬ (281474976710656 < Builtin.nextslicecap m.length 0 * i.bytes) := by rw [nextslicecap_zero (by omega), hby]; omega
      have hgr := grown 0 (by simp; omega) (blk none)
      simp only [List.length_nil, Nat.zero_add] at hgr ⊢
      refine ⟨_, _, _, ?_, fin _ _ _ (by simpa using hgr.1), hgr.2⟩
      have hf0 := hf w.drew
      simp [Builtin.append_, run_underlying Try.underlying24, run_underlying Try.underlying9, sizeOf, typeInfo, zeroValue, hi, hz, hs, Builtin.lenOf, hms, hm, h63', h48', Question.forced, run_firstCells_none, hf0, newRow, grownCap, bvals]
  · injection hv with e1 e2 e3
    subst e1 e3
    by_cases hroom : l.length + m.length ≤ c
    · have hst := run_storeCells_at Try.prog g (l.length * 1) 5 (bvals m) 0 cur w hg (by rw [bvals_len]; omega) (fun u hu => by obtain ⟨b, _, rfl⟩ := List.mem_map.1 hu; rfl)
      simp only [Nat.add_zero] at hst
      refine ⟨some ⟨g, 0, none⟩, c, w.setRow g (cur.toList.take (l.length * 1) ++ bvals m ++ cur.toList.drop (l.length * 1 + (bvals m).length)).toArray, ?_, fin _ _ _ ⟨hl2, .inr ⟨g, c, _, rfl, hbg, setRow_heap w g cur _ 5 _ hg, hroom, hcm, ?_, ?_⟩⟩, ⟨rfl, rfl, rfl, by simp, fun k _ hk => setRow_other w g k _ (fun e => hk (by simp [blk, e]))⟩⟩
      · have hf0 := hf w
        simp [Builtin.append_, run_underlying Try.underlying24, run_underlying Try.underlying9, sizeOf, typeInfo, hi, hs, Builtin.lenOf, hms, hroom, hf0, Addr.add_lit] at hst ⊢
        simp [hst]
      · simp only [List.size_toArray, List.length_append, List.length_take, List.length_drop, Array.length_toList, bvals_len]
        omega
      · rw [htake, ← hl2]
        exact List.take_left
    · have holds : ∀ j u, (bvals l)[j]? = some u → w.cell? ((⟨g, 0, none⟩ : Addr).add j) = some u := hown.cells (g := g) rfl
      have hfo := run_firstCells_some (P := Try.prog) w.drew 1 l.length ⟨g, 0, none⟩ l.length c (bvals l) (by rw [bvals_len, Nat.mul_one]) (by simpa using holds)
      have hgr := grown c (by omega) (blk (some ⟨g, 0, none⟩))
      refine ⟨_, _, _, ?_, fin _ _ _ hgr.1, hgr.2⟩
      have h63' : ¬ (9223372036854775807 < ((l.length : Int) + (m.length : Int))) := by omega
      have h48' : ¬ (281474976710656 < Builtin.nextslicecap (l.length + m.length) c * i.bytes) := by
        have := growslice_fits (need := l.length + m.length) (old := c) (bytes := i.bytes) (by omega) (by rw [hby]; omega)
        omega
      have hf0 := hf w.drew
      simp [Builtin.append_, run_underlying Try.underlying24, run_underlying Try.underlying9, sizeOf, typeInfo, zeroValue, hi, hz, hs, Builtin.lenOf, hms, hroom, h63', h48', Question.forced, hfo, hf0, newRow, grownCap]
      rw [show ((bvals l ++ bvals m).toArray : Array Value) = (bvals l).toArray ++ (bvals m).toArray by simp, Array.append_assoc]
theorem wpList_sapp {ops : Array Oper} {rest : List Oper} {o : Oper} {a : Act} {Q : Exit → Act → World → Prop} {w : World} {base : Nat} {A : Option Addr} {c : Nat} {l m : List UInt8} (hgd : o.guard = none) (s x : Operand)
    (ho : o.op = .call { callee := .builtin .append, args := #[s, x], argTypes := #[24, 9] }) (hs : a.eval s = .slice A l.length c) (h : Own w base A c l) (hx : a.eval x = .string (mkStr m))
    (hlen : l.length + m.length ≤ 140737488355328) (hbase : base ≤ w.heap.size)
    (hK : ∀ A' c' r w', Hid (r = l ++ m) → Own w' base A' c' r → w.grownBy w' (blk A) → wpList Try.prog ops Q rest (a.put o.dst (.slice A' r.length c')) w') : wpList Try.prog ops Q (o :: rest) a w :=
  wpList_plain hgd fun _ hK' => by
    obtain ⟨A', c', w', hr, h2, h3⟩ := run_sapp h m hlen hbase o.type
    unfold Oper.wp execOp
    simp only [ho, resolve, invoke, builtin, Sem.run_bind, Sem.run_pure, Result.andThen_ok, List.map_toArray, List.map_cons, List.map_nil, hs, hx, hr]
    exact hK' _ _ (hK A' c' _ w' rfl h2 h3)
end Go.Proofs.Ytcdklmicbbcknaa
