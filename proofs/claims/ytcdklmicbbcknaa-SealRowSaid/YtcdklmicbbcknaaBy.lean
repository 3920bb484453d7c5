/-
  Slices of bytes in walks: as strings and back; rows of the call's own; append.
-/
import Derived.Test.YtcdklmicbbcknaaProg
import Derived.Test.YtcdklmicbbcknaaMf
import Derived.Maps.AppendAt
import Derived.Laws.BytesArg
import Derived.Lib.ConvBytes
import Derived.Laws.StructEq
import Derived.RegionTactic
import Derived.OwnWalk
import Derived.Lib.Hide
import Derived.BigFrame
namespace Go.Proofs.Ytcdklmicbbcknaa
open Go Go.RowKit

/-- the string of these bytes -/
def mkStr (l : List UInt8) : ByteArray := ⟨l.toArray⟩
theorem mkStr_data (l : List UInt8) : (mkStr l).data.toList = l := rfl
theorem mkStr_toList (l : List UInt8) : (mkStr l).toList = l := by rw [ByteArray.toList_eq]; rfl
theorem mkStr_size (l : List UInt8) : (mkStr l).size = l.length := rfl
theorem mkStr_of (s : ByteArray) : mkStr s.data.toList = s := rfl
theorem strOf_bvals (l : List UInt8) : strOfNums (l.map fun b => (b.toNat : Int)) = mkStr l := by
  simp [strOfNums, mkStr, List.map_map, Function.comp_def]

section
variable {w : World}
theorem run_str {A : Option Addr} {l : List UInt8} (h : Bts w A l) (c : Nat) : (convert 24 9 (.slice A l.length c)).run Try.prog w = .ok (.string (mkStr l)) w := by
  rcases Nat.eq_zero_or_pos l.length with h0 | h0
  · obtain rfl : l = [] := List.eq_nil_of_length_eq_zero h0
    cases A with
    | none => exact run_convert_bytes_nil w 24 5 Try.underlying24 Try.underlying5 0 c 9 Try.underlying9
    | some a =>
      rw [run_convert_bytes_string w 24 9 5 _ _ c Try.underlying24 Try.underlying5 Try.underlying9, run_bytesToString w _ _ c [] (by simp [loadCells, loadCellsFrom])]
      rfl
  · obtain ⟨b, o, rfl, _, hc⟩ := h h0
    rw [run_convert_bytes_arg w 24 5 Try.underlying24 Try.underlying5 b o l.length c (l.map fun b => (b.toNat : Int)) (by simp) (fun i hi => ?_) 9 Try.underlying9, strOf_bvals]
    rw [hc i hi]
    simp [List.getD_eq_getElem?_getD, List.getElem?_eq_getElem hi]

theorem run_bts (s : ByteArray) (w : World) : ∃ w' c, (convert 9 24 (.string s)).run Try.prog w = .ok (.slice (some ⟨w.heap.size, 0, none⟩) s.data.toList.length c) w' ∧ Bts w' (some ⟨w.heap.size, 0, none⟩) s.data.toList ∧ Below w.heap.size w w' := by
  refine ⟨_, _, Lib.run_convert_string_bytes w 9 24 5 s Try.underlying9 Try.underlying24 Try.underlying5, fun _ => ⟨w.heap.size, 0, rfl, by rw [Lib.bytesWorld_size]; omega, fun j hj => ?_⟩,
    ⟨rfl, rfl, rfl, by rw [Lib.bytesWorld_size]; omega, fun k hk => Lib.bytesWorld_at_old w 5 s k hk⟩⟩
  rw [Nat.zero_add]
  exact Lib.bytesWorld_cell w 5 s j hj
end

/-! ### Rows of the call's own -/
theorem info5b : (Try.prog.info? 5).map (fun i => (i.zero, i.size, i.bytes)) = some (some (.int .u8 0), 1, 1) := by kernel_rfl
/-- the slice '.slice A l.length c' is a row of the call's own (from block base on) that holds the bytes l -/
def Own (w : World) (base : Nat) (A : Option Addr) (c : Nat) (l : List UInt8) : Prop := w.ownsRow base 5 1 (.slice A l.length c) l.length (bvals l)
def blk (A : Option Addr) : Option Nat := A.map (·.block)
theorem ownBlock_blk (A : Option Addr) (n c : Nat) : (Value.slice A n c).ownBlock = blk A := by cases A <;> rfl
section
variable {w w' : World} {base : Nat} {A : Option Addr} {c : Nat} {l m : List UInt8}
theorem bvals_len (l : List UInt8) : (bvals l).length = l.length := by simp [bvals]
theorem bvals_append (l m : List UInt8) : bvals (l ++ m) = bvals l ++ bvals m := by simp [bvals]
theorem Own.nil (w : World) (base : Nat) : Own w base none 0 [] := World.ownsRow_nil w base 5 1
theorem Own.made (w : World) (base : Nat) (hb : base ≤ w.heap.size) (l : List UInt8) (hl : l.length ≤ maxLen) : Own (w.alloc (.cells (bvals l).toArray 5)) base (some ⟨w.heap.size, 0, none⟩) l.length l := by
  refine ⟨by rw [bvals_len]; simp, .inr ⟨w.heap.size, l.length, _, rfl, hb, heap_alloc_new w _, Nat.le_refl _, hl, by rw [List.size_toArray, bvals_len]; simp, ?_⟩⟩
  rw [Nat.mul_one, ← bvals_len l]; simp
theorem Own.bts (h : Own w base A c l) : Bts w A l := fun h0 => by
  rcases h.2 with ⟨_, h1⟩ | ⟨g, cap, cur, hv, _, hh, hn, _, hcs, ht⟩
  · omega
  · injection hv with hA _ _
    subst hA
    refine ⟨g, 0, rfl, ?_, fun j hj => ?_⟩
    · rcases Nat.lt_or_ge g w.heap.size with hl | hl
      · exact hl
      · rw [Array.getElem?_eq_none hl] at hh; cases hh
    · rw [Nat.zero_add]
      have hc := cell_of_row w g j cur 5 (0, 0) hh
      rw [hc, ← bvals_get l j hj, ← ht]
      simp [hj]
theorem Own.lt (h : Own w base A c l) : ∀ k, blk A = some k → base ≤ k ∧ k < w.heap.size := by
  have := World.ownsRow.lt h
  rw [ownBlock_blk] at this
  exact this
theorem Own.alloc (h : Own w base A c l) (o : Obj) : Own (w.alloc o) base A c l := World.ownsRow.alloc h o
theorem Own.drew (h : Own w base A c l) : Own w.drew base A c l := h
theorem Own.below (h : Own w base A c l) (hb : Below w.heap.size w w') : Own w' base A c l := by
  obtain ⟨h1, h2⟩ := h
  refine ⟨h1, ?_⟩
  rcases h2 with h2 | ⟨g, cap, cur, hv, hg, hh, r⟩
  · exact .inl h2
  · have hlt : g < w.heap.size := by
      rcases Nat.lt_or_ge g w.heap.size with hl | hl
      · exact hl
      · rw [Array.getElem?_eq_none hl] at hh; cases hh
    exact .inr ⟨g, cap, cur, hv, hg, (hb.block g hlt).trans hh, r⟩
theorem Own.kept (h : Own w base A c l) {row : Option Nat} (hg : w.grownBy w' row) (hne : blk A = none ∨ blk A ≠ row) : Own w' base A c l := World.ownsRow.kept h hg (by rw [ownBlock_blk]; exact hne)

theorem add_plain (b o j : Nat) : (⟨b, o, none⟩ : Addr).add j = ⟨b, o + j, none⟩ := by
  unfold Addr.add; split <;> simp_all
theorem run_app_none {P : Program} (w : World) {base : Nat} (t ty e : TypeId) (i : TypeInfo) {size : Nat} (ht : P.underlying t = some (.slice e)) (hi : P.info? e = some i)
    (v : Value) (n : Nat) (xs : List Value) (hown : w.ownsRow base e size v n xs) (c2 : Nat) : (Builtin.append_ #[t, t] ty #[v, .slice none 0 c2]).run P w = .ok v w := by
  rcases hown.2 with ⟨rfl, rfl⟩ | ⟨g, cap, cur, rfl, _, _, hnc, _⟩
  · simp [Builtin.append_, run_underlying ht, sizeOf, typeInfo, hi, Builtin.lenOf, Builtin.firstCells]
  · simp [Builtin.append_, run_underlying ht, sizeOf, typeInfo, hi, Builtin.lenOf, Builtin.firstCells, hnc, storeCells]
/-- append of bytes that are read anywhere onto a row of the call's own -/
theorem run_app (h : Own w base A c l) {A2 : Option Addr} (hm : Bts w A2 m) (c2 : Nat) (hlen : l.length + m.length ≤ 140737488355328) (hbase : base ≤ w.heap.size) (ty : TypeId) :
    ∃ A' c' w', (Builtin.append_ #[24, 24] ty #[.slice A l.length c, .slice A2 m.length c2]).run Try.prog w = .ok (.slice A' (l ++ m).length c') w' ∧ Own w' base A' c' (l ++ m) ∧ w.grownBy w' (blk A) ∧ (blk A' = blk A ∨ blk A' = some w.heap.size) := by
  obtain ⟨i, hi, hz, hs, hby⟩ := info_parts info5b
  have key : ∀ (ad : Addr), (∀ j u, (bvals m)[j]? = some u → w.cell? (ad.add j) = some u) → ∃ A' c' w', (Builtin.append_ #[24, 24] ty #[.slice A l.length c, .slice (some ad) m.length c2]).run Try.prog w = .ok (.slice A' (l ++ m).length c') w' ∧ Own w' base A' c' (l ++ m) ∧ w.grownBy w' (blk A) ∧ (blk A' = blk A ∨ blk A' = some w.heap.size) := fun ad hnews => by
    obtain ⟨v', w', hr, h2, h3, _, h5⟩ := run_append_own_at (P := Try.prog) w base 24 ty 5 i (.int .u8 0) 1 1 Try.underlying24 hi hz hs hby rfl (by omega) _ _ _ h ad m.length c2 (bvals m) (by rw [bvals_len]; simp) hnews
      (fun u hu => by obtain ⟨b, _, rfl⟩ := List.mem_map.1 hu; rfl) (by simp only [maxLen]; omega) (by omega) hbase
    have hform : ∃ A' c', v' = .slice A' (l ++ m).length c' := by
      rcases h2.2 with ⟨e, h0⟩ | ⟨g, cap, cur, e, _⟩
      · exact ⟨none, 0, by rw [e, List.length_append, h0]⟩
      · exact ⟨_, cap, by rw [e, List.length_append]⟩
    obtain ⟨A', c', rfl⟩ := hform
    refine ⟨A', c', w', hr, ?_, by rw [ownBlock_blk] at h3; exact h3, by rw [ownBlock_blk, ownBlock_blk] at h5; exact h5⟩
    unfold Own
    rw [bvals_append]
    have : (l ++ m).length = l.length + m.length := List.length_append
    rw [this] at h2 ⊢
    exact h2
  rcases Nat.eq_zero_or_pos m.length with h0 | h0
  · obtain rfl : m = [] := List.eq_nil_of_length_eq_zero h0
    cases A2 with
    | some ad => exact key ad (fun j u hu => by simp [bvals] at hu)
    | none =>
      refine ⟨A, c, w, ?_, by simpa using h, ⟨rfl, rfl, rfl, Nat.le_refl _, fun _ _ _ => rfl⟩, .inl rfl⟩
      rw [List.append_nil]
      exact run_app_none w 24 ty 5 i Try.underlying24 hi _ _ _ h c2
  · obtain ⟨b, o, rfl, _, hc⟩ := hm h0
    refine key ⟨b, o, none⟩ (fun j u hu => ?_)
    have hj : j < m.length := by
      rcases Nat.lt_or_ge j m.length with hl | hl
      · exact hl
      · rw [List.getElem?_eq_none (by rw [bvals_len]; exact hl)] at hu; cases hu
    rw [bvals_get m j hj] at hu
    obtain rfl := Option.some.inj hu
    rw [add_plain]; exact hc j hj

/-- the same at the operation; the new bytes bear a name of their own -/
theorem wp_app {o : Oper} {a : Act} {K : Act → World → Prop} {Q : Exit → Act → World → Prop} (s x : Operand)
    (ho : o.op = .call { callee := .builtin .append, args := #[s, x], argTypes := #[24, 24] }) (hs : a.eval s = .slice A l.length c) (h : Own w base A c l) {A2 : Option Addr} {c2 : Nat} (hx : a.eval x = .slice A2 m.length c2) (hm : Bts w A2 m)
    (hlen : l.length + m.length ≤ 140737488355328) (hbase : base ≤ w.heap.size)
    (hK : ∀ A' c' r w', Hid (r = l ++ m) → Own w' base A' c' r → w.grownBy w' (blk A) → (blk A' = blk A ∨ blk A' = some w.heap.size) → K (a.put o.dst (.slice A' r.length c')) w') : o.wp Try.prog a w K Q := by
  obtain ⟨A', c', w', hr, h2, h3, h4⟩ := run_app h hm c2 hlen hbase o.type
  unfold Oper.wp execOp
  simp only [ho, resolve, invoke, builtin, Sem.run_bind, Sem.run_pure, Result.andThen_ok, List.map_toArray, List.map_cons, List.map_nil, hs, hx, hr]
  exact hK A' c' _ w' rfl h2 h3 h4
theorem wpList_app {ops : Array Oper} {rest : List Oper} {o : Oper} {a : Act} {Q : Exit → Act → World → Prop} (hgd : o.guard = none) (s x : Operand)
    (ho : o.op = .call { callee := .builtin .append, args := #[s, x], argTypes := #[24, 24] }) (hs : a.eval s = .slice A l.length c) (h : Own w base A c l) {A2 : Option Addr} {c2 : Nat} (hx : a.eval x = .slice A2 m.length c2) (hm : Bts w A2 m)
    (hlen : l.length + m.length ≤ 140737488355328) (hbase : base ≤ w.heap.size)
    (hK : ∀ A' c' r w', Hid (r = l ++ m) → Own w' base A' c' r → w.grownBy w' (blk A) → (blk A' = blk A ∨ blk A' = some w.heap.size) → wpList Try.prog ops Q rest (a.put o.dst (.slice A' r.length c')) w') : wpList Try.prog ops Q (o :: rest) a w :=
  wpList_plain hgd fun _ hK' => wp_app s x ho hs h hx hm hlen hbase fun A' c' r w' h1 h2 h3 h4 => hK' _ _ (hK A' c' r w' h1 h2 h3 h4)
theorem wpList_appG {ops : Array Oper} {rest : List Oper} {o : Oper} {a : Act} {Q : Exit → Act → World → Prop} (hgd : Region.wanted o (yielded ops a.tmps) = true) (s x : Operand)
    (ho : o.op = .call { callee := .builtin .append, args := #[s, x], argTypes := #[24, 24] }) (hs : a.eval s = .slice A l.length c) (h : Own w base A c l) {A2 : Option Addr} {c2 : Nat} (hx : a.eval x = .slice A2 m.length c2) (hm : Bts w A2 m)
    (hlen : l.length + m.length ≤ 140737488355328) (hbase : base ≤ w.heap.size)
    (hK : ∀ A' c' r w', Hid (r = l ++ m) → Own w' base A' c' r → w.grownBy w' (blk A) → (blk A' = blk A ∨ blk A' = some w.heap.size) → wpList Try.prog ops Q rest (a.put o.dst (.slice A' r.length c')) w') : wpList Try.prog ops Q (o :: rest) a w :=
  BigFrame.wpList_want hgd fun _ hK' => wp_app s x ho hs h hx hm hlen hbase fun A' c' r w' h1 h2 h3 h4 => hK' _ _ (hK A' c' r w' h1 h2 h3 h4)
end
end Go.Proofs.Ytcdklmicbbcknaa
