/-
  seal.Get behind the numbers: what its walks ask of memory (printed by sx3.py).
-/
import Derived.Test.YtcdklmicbbcknaaSw
import Derived.Laws.Cover3
namespace Go.Proofs.Ytcdklmicbbcknaa
open Go Go.RowKit
theorem bts_far {w : World} {A : Option Addr} {l : List UInt8} {g i : Nat} {v : Value} (h : Bts w A l) (hA : ∀ b o, A = some ⟨b, o, none⟩ → b ≠ g) : Bts (w.setCell ⟨g, i, none⟩ v) A l := fun h0 => by
  obtain ⟨b, o, e, hb, hc⟩ := h h0
  have hne := hA b o e
  refine ⟨b, o, e, by simpa using hb, fun j hj => ?_⟩
  rw [← hc j hj]
  exact World.cell?_of_block (w := w) (Below.heap_setCell w ⟨g, i, none⟩ v b hne)
theorem own_far {w : World} {base c : Nat} {A : Option Addr} {l : List UInt8} {g i : Nat} {v : Value} (h : Own w base A c l) (hg : g < base) : Own (w.setCell ⟨g, i, none⟩ v) base A c l := by
  obtain ⟨h1, h2⟩ := h
  refine ⟨h1, ?_⟩
  rcases h2 with h2 | ⟨g', cap, cur, hv, hb, hh, r⟩
  · exact .inl h2
  · exact .inr ⟨g', cap, cur, hv, hb, (Below.heap_setCell w ⟨g, i, none⟩ v g' (show g' ≠ g by omega)).trans hh, r⟩
theorem bts8v {w : World} {A : Option Addr} {l : List UInt8} {g : Nat} {v0 v1 v2 v3 v4 v5 v6 v7 : Value} (h : Bts w A l) (hA : ∀ b o, A = some ⟨b, o, none⟩ → b ≠ g) : Bts ((((((((w.setCell ⟨g, 0, none⟩ v0).setCell ⟨g, 1, none⟩ v1).setCell ⟨g, 2, none⟩ v2).setCell ⟨g, 3, none⟩ v3).setCell ⟨g, 4, none⟩ v4).setCell ⟨g, 5, none⟩ v5).setCell ⟨g, 6, none⟩ v6).setCell ⟨g, 7, none⟩ v7) A l :=
  (bts_far (bts_far (bts_far (bts_far (bts_far (bts_far (bts_far (bts_far h hA) hA) hA) hA) hA) hA) hA) hA)
theorem bts_8 {w : World} {b o i : Nat} {l : List UInt8} {u0 u1 u2 u3 u4 u5 u6 u7 : UInt8} (h : Bts w (some ⟨b, o, none⟩) l) (hl : i + 8 ≤ l.length) (hU : Hid ((l.drop i).take 8 = [u0, u1, u2, u3, u4, u5, u6, u7])) :
    w.cell? ⟨b, o + i, none⟩ = some (.int .u8 (u0.toNat : Int)) ∧ w.cell? ⟨b, o + i + 1, none⟩ = some (.int .u8 (u1.toNat : Int)) ∧ w.cell? ⟨b, o + i + 2, none⟩ = some (.int .u8 (u2.toNat : Int)) ∧ w.cell? ⟨b, o + i + 3, none⟩ = some (.int .u8 (u3.toNat : Int)) ∧ w.cell? ⟨b, o + i + 4, none⟩ = some (.int .u8 (u4.toNat : Int)) ∧ w.cell? ⟨b, o + i + 5, none⟩ = some (.int .u8 (u5.toNat : Int)) ∧ w.cell? ⟨b, o + i + 6, none⟩ = some (.int .u8 (u6.toNat : Int)) ∧ w.cell? ⟨b, o + i + 7, none⟩ = some (.int .u8 (u7.toNat : Int)) := by
  obtain ⟨b', o', e, _, hc⟩ := h (by omega)
  injection e with e
  injection e with e1 e2
  subst e1 e2
  have key : ∀ j, j < 8 → w.cell? ⟨b, o + i + j, none⟩ = some (.int .u8 (([u0, u1, u2, u3, u4, u5, u6, u7].getD j 0).toNat : Int)) := fun j hj => by
    rw [Nat.add_assoc, hc (i + j) (by omega), ← hU.out]
    congr 3
    rw [List.getD_eq_getElem?_getD, List.getD_eq_getElem?_getD, List.getElem?_take, if_pos hj, List.getElem?_drop]
  exact ⟨key 0 (by omega), key 1 (by omega), key 2 (by omega), key 3 (by omega), key 4 (by omega), key 5 (by omega), key 6 (by omega), key 7 (by omega)⟩
theorem eight_of {α : Type} (m : List α) (h : m.length = 8) : ∃ u0 u1 u2 u3 u4 u5 u6 u7, Hid (m = [u0, u1, u2, u3, u4, u5, u6, u7]) := by
  match m, h with
  | [a0, a1, a2, a3, a4, a5, a6, a7], _ => exact ⟨_, _, _, _, _, _, _, _, rfl⟩
structure SxS (w0 : World) (k : K8) (s : List Value) (A : Option Addr) (l : List UInt8) (w : World) : Prop where
  kh : Holds w w0.heap.size 28 [.int .u32 (W k.k0), .int .u32 (W k.k1), .int .u32 (W k.k2), .int .u32 (W k.k3), .int .u32 (W k.k4), .int .u32 (W k.k5), .int .u32 (W k.k6), .int .u32 (W k.k7)]
  zh : Holds w (w0.heap.size + 1) 81 [.int .i64 0, .int .i64 0, .bool false, .slice none 0 0]
  sh : Holds w (w0.heap.size + 1 + 1) 81 s
  bh : Bts w A l
  wh : Below w0.heap.size w0 w
theorem sx_of (k : K8) (P : Nat) (A : Option Addr) (r : List UInt8) (N c : Nat) (hN : r.length = N) (t0 t1 s2 t3 t4 t5 t6 t7 : UInt8) (hT : Hid (tagL k P r = [t0, t1, s2, t3, t4, t5, t6, t7])) (hl : r.length ≤ 1000000000) (w : World) (hB : Bts w A r) :
    Calls Try.prog 25 #[.agg #[.int .u32 (W k.k0), .int .u32 (W k.k1), .int .u32 (W k.k2), .int .u32 (W k.k3), .int .u32 (W k.k4), .int .u32 (W k.k5), .int .u32 (W k.k6), .int .u32 (W k.k7)], .int .i64 P, .slice A N c] w fun e w' => e = .returned (.agg #[.int .u8 (t0.toNat : Int), .int .u8 (t1.toNat : Int), .int .u8 (s2.toNat : Int), .int .u8 (t3.toNat : Int), .int .u8 (t4.toNat : Int), .int .u8 (t5.toNat : Int), .int .u8 (t6.toNat : Int), .int .u8 (t7.toNat : Int)]) ∧ Below w.heap.size w w' := by
  subst hN
  have h := of_any k P A r c w (by omega) hB
  rw [hT.out] at h
  exact h
theorem sx_xor (k : K8) (P : Nat) (A : Option Addr) (l : List UInt8) (N c : Nat) (hN : l.length = N) (hl : l.length ≤ 12100) (X : List UInt8) (hX : Hid (X = xorL (streamL k P N) l)) (w : World) (hB : Bts w A l) :
    Calls Try.prog 48 #[.agg #[.int .u32 (W k.k0), .int .u32 (W k.k1), .int .u32 (W k.k2), .int .u32 (W k.k3), .int .u32 (W k.k4), .int .u32 (W k.k5), .int .u32 (W k.k6), .int .u32 (W k.k7)], .int .i64 P, .slice A N c] w fun e w' => ∃ A' c', e = .returned (.slice A' X.length c') ∧ Own w' w.heap.size A' c' X ∧ Below w.heap.size w w' := by
  subst hN
  refine (xor_any k P A l c w (by omega) hB).mono ?_
  rintro e w' ⟨A', c', r, hr, rfl, ho, hb⟩
  obtain rfl : X = r := by rw [hX.out, hr.out]
  exact ⟨A', c', rfl, ho.mono (by omega), hb⟩
theorem sx_same (l m : List UInt8) (t0 t1 s2 t3 t4 t5 t6 t7 u0 u1 u2 u3 u4 u5 u6 u7 : UInt8) (hl : Hid (l = [t0, t1, s2, t3, t4, t5, t6, t7])) (hm : Hid (m = [u0, u1, u2, u3, u4, u5, u6, u7])) (d : Bool) (hd : Hid (decide (l = m) = d)) (w : World) :
    Calls Try.prog 29 #[.agg #[.int .u8 (t0.toNat : Int), .int .u8 (t1.toNat : Int), .int .u8 (s2.toNat : Int), .int .u8 (t3.toNat : Int), .int .u8 (t4.toNat : Int), .int .u8 (t5.toNat : Int), .int .u8 (t6.toNat : Int), .int .u8 (t7.toNat : Int)], .agg #[.int .u8 (u0.toNat : Int), .int .u8 (u1.toNat : Int), .int .u8 (u2.toNat : Int), .int .u8 (u3.toNat : Int), .int .u8 (u4.toNat : Int), .int .u8 (u5.toNat : Int), .int .u8 (u6.toNat : Int), .int .u8 (u7.toNat : Int)]] w fun e w' => e = .returned (.bool d) ∧ Below w.heap.size w w' := by
  obtain rfl := hl.out
  obtain rfl := hm.out
  obtain rfl := hd.out
  exact same_bytes [t0, t1, s2, t3, t4, t5, t6, t7] [u0, u1, u2, u3, u4, u5, u6, u7] rfl rfl w
theorem wp_al26 {o : Oper} {a : Act} {K : Act → World → Prop} {Q : Exit → Act → World → Prop} {w : World} (ho : o.op = Op.alloc 26)
    (hK : ∀ w', Holds w' w.heap.size 26 [.int .u8 0, .int .u8 0, .int .u8 0, .int .u8 0, .int .u8 0, .int .u8 0, .int .u8 0, .int .u8 0] → Below w.heap.size w w' → K (a.put o.dst (.pointer (some ⟨w.heap.size, 0, none⟩))) w') : o.wp Try.prog a w K Q := by
  obtain ⟨dst, op, type, pos, after, guard⟩ := o
  obtain rfl : op = Op.alloc 26 := ho
  go_simp
  exact hK _ (Holds.newAt w 26 [.int .u8 0, .int .u8 0, .int .u8 0, .int .u8 0, .int .u8 0, .int .u8 0, .int .u8 0, .int .u8 0] (n := w.heap.size) rfl) ((Below.refl _ _).alloc (Nat.le_refl _) _)
theorem set8v {w : World} {g : Nat} {t : TypeId} {u0 u1 u2 u3 u4 u5 u6 u7 v0 v1 v2 v3 v4 v5 v6 v7 : Value} (hg : Holds w g t [u0, u1, u2, u3, u4, u5, u6, u7]) : Holds ((((((((w.setCell ⟨g, 0, none⟩ v0).setCell ⟨g, 1, none⟩ v1).setCell ⟨g, 2, none⟩ v2).setCell ⟨g, 3, none⟩ v3).setCell ⟨g, 4, none⟩ v4).setCell ⟨g, 5, none⟩ v5).setCell ⟨g, 6, none⟩ v6).setCell ⟨g, 7, none⟩ v7) g t [v0, v1, v2, v3, v4, v5, v6, v7] :=
  ((((((((hg.set 0 v0).set 1 v1).set 2 v2).set 3 v3).set 4 v4).set 5 v5).set 6 v6).set 7 v7)
theorem SxS.set {w0 w : World} {k : K8} {s : List Value} {A : Option Addr} {l : List UInt8} {g : Nat} {v0 v1 v2 v3 v4 v5 v6 v7 : Value} (h : SxS w0 k s A l w) (hg : w0.heap.size + 1 + 1 < g) (hA : ∀ b o, A = some ⟨b, o, none⟩ → b ≠ g) : SxS w0 k s A l ((((((((w.setCell ⟨g, 0, none⟩ v0).setCell ⟨g, 1, none⟩ v1).setCell ⟨g, 2, none⟩ v2).setCell ⟨g, 3, none⟩ v3).setCell ⟨g, 4, none⟩ v4).setCell ⟨g, 5, none⟩ v5).setCell ⟨g, 6, none⟩ v6).setCell ⟨g, 7, none⟩ v7) :=
  ⟨far8v h.kh (by omega), far8v h.zh (by omega), far8v h.sh (by omega), bts8v h.bh hA, below8v h.wh (by omega)⟩
/-- a store into field 3 of the segment -/
theorem SxS.put3 {w0 w : World} {k : K8} {v0 v1 v2 v3 v : Value} {A : Option Addr} {l : List UInt8} (h : SxS w0 k [v0, v1, v2, v3] A l w) (hA : ∀ b o, A = some ⟨b, o, none⟩ → b < w0.heap.size) : SxS w0 k [v0, v1, v2, v] A l (w.setCell ⟨w0.heap.size + 1 + 1, 3, none⟩ v) :=
  ⟨h.kh.far (p := ⟨w0.heap.size + 1 + 1, 3, none⟩) (show w0.heap.size ≠ w0.heap.size + 1 + 1 by omega) v, h.zh.far (p := ⟨w0.heap.size + 1 + 1, 3, none⟩) (show w0.heap.size + 1 ≠ w0.heap.size + 1 + 1 by omega) v, h.sh.set 3 v, bts_far h.bh (fun b o e => by have := hA b o e; omega), h.wh.setCell (p := ⟨w0.heap.size + 1 + 1, 3, none⟩) (show w0.heap.size ≤ w0.heap.size + 1 + 1 by omega) v⟩
theorem SxS.keep {w0 w w' : World} {k : K8} {s : List Value} {A : Option Addr} {l : List UInt8} (h : SxS w0 k s A l w) (hb : Below w.heap.size w w') : SxS w0 k s A l w' :=
  ⟨h.kh.below hb h.kh.lt, h.zh.below hb h.zh.lt, h.sh.below hb h.sh.lt, h.bh.below hb, h.wh.trans (hb.mono h.wh.size)⟩
theorem below4v {w0 w : World} {g B : Nat} {v0 v1 v2 v3 : Value} (h : Below B w0 w) (hb : B ≤ g) : Below B w0 ((((w.setCell ⟨g, 0, none⟩ v0).setCell ⟨g, 1, none⟩ v1).setCell ⟨g, 2, none⟩ v2).setCell ⟨g, 3, none⟩ v3) :=
  (((h.setCell (p := ⟨g, 0, none⟩) hb v0).setCell (p := ⟨g, 1, none⟩) hb v1).setCell (p := ⟨g, 2, none⟩) hb v2).setCell (p := ⟨g, 3, none⟩) hb v3
theorem put4v {w : World} {g : Nat} {t : TypeId} {u0 u1 u2 u3 v0 v1 v2 v3 : Value} (h : Holds w g t [u0, u1, u2, u3]) : Holds ((((w.setCell ⟨g, 0, none⟩ v0).setCell ⟨g, 1, none⟩ v1).setCell ⟨g, 2, none⟩ v2).setCell ⟨g, 3, none⟩ v3) g t [v0, v1, v2, v3] :=
  (((h.set 0 v0).set 1 v1).set 2 v2).set 3 v3
theorem own4v {w : World} {g base c : Nat} {A : Option Addr} {l : List UInt8} {v0 v1 v2 v3 : Value} (h : Own w base A c l) (hb : g < base) : Own ((((w.setCell ⟨g, 0, none⟩ v0).setCell ⟨g, 1, none⟩ v1).setCell ⟨g, 2, none⟩ v2).setCell ⟨g, 3, none⟩ v3) base A c l :=
  own_far (own_far (own_far (own_far h hb) hb) hb) hb
/-- two facts of a world are kept, the world becomes a letter -/
theorem two_worlds {C A B : World → Prop} {w : World} (hA : A w) (hB : B w) (h : ∀ wx, A wx → B wx → C wx) : C w := h w hA hB
end Go.Proofs.Ytcdklmicbbcknaa
