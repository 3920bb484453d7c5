/-
  seal.Get behind the numbers: what its walks ask of memory, and the walks (printed by sx3.py, put together).
-/
import Derived.Test.YtcdklmicbbcknaaSw
import Derived.Laws.Cover3
namespace Go.Proofs.Ytcdklmicbbcknaa
open Go Go.RowKit
theorem bts_far {w : World} {A : Option Addr} {l : List UInt8} {g i : Nat} {v : Value} (h : Bts w A l) (hA : ∀ b o, A = some ⟨b, o, none⟩ → b ≠ g) : Bts (w.setCell ⟨g, i, none⟩ v) A l := fun h0 => by
  obtain ⟨b, o, e, hb, hc⟩ := h h0
  have hne := hA b o e
  refine ⟨b, o, e, by simpa using hb, fun j hj => ?_⟩
  rw [← hc j hj]
  exact World.cell?_of_block (w := w) (Below.heap_setCell w ⟨g, i, none⟩ v b hne)
theorem own_far {w : World} {base c : Nat} {A : Option Addr} {l : List UInt8} {g i : Nat} {v : Value} (h : Own w base A c l) (hg : g < base) : Own (w.setCell ⟨g, i, none⟩ v) base A c l := by
  obtain ⟨h1, h2⟩ := h
  refine ⟨h1, ?_⟩
  rcases h2 with h2 | ⟨g', cap, cur, hv, hb, hh, r⟩
  · exact .inl h2
  · exact .inr ⟨g', cap, cur, hv, hb, (Below.heap_setCell w ⟨g, i, none⟩ v g' (show g' ≠ g by omega)).trans hh, r⟩
theorem bts8v {w : World} {A : Option Addr} {l : List UInt8} {g : Nat} {v0 v1 v2 v3 v4 v5 v6 v7 : Value} (h : Bts w A l) (hA : ∀ b o, A = some ⟨b, o, none⟩ → b ≠ g) : Bts ((((((((w.setCell ⟨g, 0, none⟩ v0).setCell ⟨g, 1, none⟩ v1).setCell ⟨g, 2, none⟩ v2).setCell ⟨g, 3, none⟩ v3).setCell ⟨g, 4, none⟩ v4).setCell ⟨g, 5, none⟩ v5).setCell ⟨g, 6, none⟩ v6).setCell ⟨g, 7, none⟩ v7) A l :=
  (bts_far (bts_far (bts_far (bts_far (bts_far (bts_far (bts_far (bts_far h hA) hA) hA) hA) hA) hA) hA) hA)
theorem bts_8 {w : World} {b o i : Nat} {l : List UInt8} {u0 u1 u2 u3 u4 u5 u6 u7 : UInt8} (h : Bts w (some ⟨b, o, none⟩) l) (hl : i + 8 ≤ l.length) (hU : Hid ((l.drop i).take 8 = [u0, u1, u2, u3, u4, u5, u6, u7])) :
    w.cell? ⟨b, o + i, none⟩ = some (.int .u8 (u0.toNat : Int)) ∧ w.cell? ⟨b, o + i + 1, none⟩ = some (.int .u8 (u1.toNat : Int)) ∧ w.cell? ⟨b, o + i + 2, none⟩ = some (.int .u8 (u2.toNat : Int)) ∧ w.cell? ⟨b, o + i + 3, none⟩ = some (.int .u8 (u3.toNat : Int)) ∧ w.cell? ⟨b, o + i + 4, none⟩ = some (.int .u8 (u4.toNat : Int)) ∧ w.cell? ⟨b, o + i + 5, none⟩ = some (.int .u8 (u5.toNat : Int)) ∧ w.cell? ⟨b, o + i + 6, none⟩ = some (.int .u8 (u6.toNat : Int)) ∧ w.cell? ⟨b, o + i + 7, none⟩ = some (.int .u8 (u7.toNat : Int)) := by
  obtain ⟨b', o', e, _, hc⟩ := h (by omega)
  injection e with e
  injection e with e1 e2
  subst e1 e2
  have key : ∀ j, j < 8 → w.cell? ⟨b, o + i + j, none⟩ = some (.int .u8 (([u0, u1, u2, u3, u4, u5, u6, u7].getD j 0).toNat : Int)) := fun j hj => by
    rw [Nat.add_assoc, hc (i + j) (by omega), ← hU.out]
    congr 3
    rw [List.getD_eq_getElem?_getD, List.getD_eq_getElem?_getD, List.getElem?_take, if_pos hj, List.getElem?_drop]
  exact ⟨key 0 (by omega), key 1 (by omega), key 2 (by omega), key 3 (by omega), key 4 (by omega), key 5 (by omega), key 6 (by omega), key 7 (by omega)⟩
theorem eight_of {α : Type} (m : List α) (h : m.length = 8) : ∃ u0 u1 u2 u3 u4 u5 u6 u7, Hid (m = [u0, u1, u2, u3, u4, u5, u6, u7]) := by
  match m, h with
  | [a0, a1, a2, a3, a4, a5, a6, a7], _ => exact ⟨_, _, _, _, _, _, _, _, rfl⟩
structure SxS (w0 : World) (k : K8) (s : List Value) (A : Option Addr) (l : List UInt8) (w : World) : Prop where
  kh : Holds w w0.heap.size 28 [.int .u32 (W k.k0), .int .u32 (W k.k1), .int .u32 (W k.k2), .int .u32 (W k.k3), .int .u32 (W k.k4), .int .u32 (W k.k5), .int .u32 (W k.k6), .int .u32 (W k.k7)]
  zh : Holds w (w0.heap.size + 1) 81 [.int .i64 0, .int .i64 0, .bool false, .slice none 0 0]
  sh : Holds w (w0.heap.size + 1 + 1) 81 s
  bh : Bts w A l
  wh : Below w0.heap.size w0 w
theorem sx_of (k : K8) (P : Nat) (A : Option Addr) (r : List UInt8) (N c : Nat) (hN : r.length = N) (t0 t1 s2 t3 t4 t5 t6 t7 : UInt8) (hT : Hid (tagL k P r = [t0, t1, s2, t3, t4, t5, t6, t7])) (hl : r.length ≤ 1000000000) (w : World) (hB : Bts w A r) :
    Calls Try.prog 25 #[.agg #[.int .u32 (W k.k0), .int .u32 (W k.k1), .int .u32 (W k.k2), .int .u32 (W k.k3), .int .u32 (W k.k4), .int .u32 (W k.k5), .int .u32 (W k.k6), .int .u32 (W k.k7)], .int .i64 P, .slice A N c] w fun e w' => e = .returned (.agg #[.int .u8 (t0.toNat : Int), .int .u8 (t1.toNat : Int), .int .u8 (s2.toNat : Int), .int .u8 (t3.toNat : Int), .int .u8 (t4.toNat : Int), .int .u8 (t5.toNat : Int), .int .u8 (t6.toNat : Int), .int .u8 (t7.toNat : Int)]) ∧ Below w.heap.size w w' := by
  subst hN
  have h := of_any k P A r c w (by omega) hB
  rw [hT.out] at h
  exact h
theorem sx_xor (k : K8) (P : Nat) (A : Option Addr) (l : List UInt8) (N c : Nat) (hN : l.length = N) (hl : l.length ≤ 12100) (X : List UInt8) (hX : Hid (X = xorL (streamL k P N) l)) (w : World) (hB : Bts w A l) :
    Calls Try.prog 48 #[.agg #[.int .u32 (W k.k0), .int .u32 (W k.k1), .int .u32 (W k.k2), .int .u32 (W k.k3), .int .u32 (W k.k4), .int .u32 (W k.k5), .int .u32 (W k.k6), .int .u32 (W k.k7)], .int .i64 P, .slice A N c] w fun e w' => ∃ A' c', e = .returned (.slice A' X.length c') ∧ Own w' w.heap.size A' c' X ∧ Below w.heap.size w w' := by
  subst hN
  refine (xor_any k P A l c w (by omega) hB).mono ?_
  rintro e w' ⟨A', c', r, hr, rfl, ho, hb⟩
  obtain rfl : X = r := by rw [hX.out, hr.out]
  exact ⟨A', c', rfl, ho.mono (by omega), hb⟩
theorem sx_same (l m : List UInt8) (t0 t1 s2 t3 t4 t5 t6 t7 u0 u1 u2 u3 u4 u5 u6 u7 : UInt8) (hl : Hid (l = [t0, t1, s2, t3, t4, t5, t6, t7])) (hm : Hid (m = [u0, u1, u2, u3, u4, u5, u6, u7])) (d : Bool) (hd : Hid (decide (l = m) = d)) (w : World) :
    Calls Try.prog 29 #[.agg #[.int .u8 (t0.toNat : Int), .int .u8 (t1.toNat : Int), .int .u8 (s2.toNat : Int), .int .u8 (t3.toNat : Int), .int .u8 (t4.toNat : Int), .int .u8 (t5.toNat : Int), .int .u8 (t6.toNat : Int), .int .u8 (t7.toNat : Int)], .agg #[.int .u8 (u0.toNat : Int), .int .u8 (u1.toNat : Int), .int .u8 (u2.toNat : Int), .int .u8 (u3.toNat : Int), .int .u8 (u4.toNat : Int), .int .u8 (u5.toNat : Int), .int .u8 (u6.toNat : Int), .int .u8 (u7.toNat : Int)]] w fun e w' => e = .returned (.bool d) ∧ Below w.heap.size w w' := by
  obtain rfl := hl.out
  obtain rfl := hm.out
  obtain rfl := hd.out
  exact same_bytes [t0, t1, s2, t3, t4, t5, t6, t7] [u0, u1, u2, u3, u4, u5, u6, u7] rfl rfl w
theorem wp_al26 {o : Oper} {a : Act} {K : Act → World → Prop} {Q : Exit → Act → World → Prop} {w : World} (ho : o.op = Op.alloc 26)
    (hK : ∀ w', Holds w' w.heap.size 26 [.int .u8 0, .int .u8 0, .int .u8 0, .int .u8 0, .int .u8 0, .int .u8 0, .int .u8 0, .int .u8 0] → Below w.heap.size w w' → K (a.put o.dst (.pointer (some ⟨w.heap.size, 0, none⟩))) w') : o.wp Try.prog a w K Q := by
  obtain ⟨dst, op, type, pos, after, guard⟩ := o
  obtain rfl : op = Op.alloc 26 := ho
  go_simp
  exact hK _ (Holds.newAt w 26 [.int .u8 0, .int .u8 0, .int .u8 0, .int .u8 0, .int .u8 0, .int .u8 0, .int .u8 0, .int .u8 0] (n := w.heap.size) rfl) ((Below.refl _ _).alloc (Nat.le_refl _) _)
theorem set8v {w : World} {g : Nat} {t : TypeId} {u0 u1 u2 u3 u4 u5 u6 u7 v0 v1 v2 v3 v4 v5 v6 v7 : Value} (hg : Holds w g t [u0, u1, u2, u3, u4, u5, u6, u7]) : Holds ((((((((w.setCell ⟨g, 0, none⟩ v0).setCell ⟨g, 1, none⟩ v1).setCell ⟨g, 2, none⟩ v2).setCell ⟨g, 3, none⟩ v3).setCell ⟨g, 4, none⟩ v4).setCell ⟨g, 5, none⟩ v5).setCell ⟨g, 6, none⟩ v6).setCell ⟨g, 7, none⟩ v7) g t [v0, v1, v2, v3, v4, v5, v6, v7] :=
  ((((((((hg.set 0 v0).set 1 v1).set 2 v2).set 3 v3).set 4 v4).set 5 v5).set 6 v6).set 7 v7)
theorem SxS.set {w0 w : World} {k : K8} {s : List Value} {A : Option Addr} {l : List UInt8} {g : Nat} {v0 v1 v2 v3 v4 v5 v6 v7 : Value} (h : SxS w0 k s A l w) (hg : w0.heap.size + 1 + 1 < g) (hA : ∀ b o, A = some ⟨b, o, none⟩ → b ≠ g) : SxS w0 k s A l ((((((((w.setCell ⟨g, 0, none⟩ v0).setCell ⟨g, 1, none⟩ v1).setCell ⟨g, 2, none⟩ v2).setCell ⟨g, 3, none⟩ v3).setCell ⟨g, 4, none⟩ v4).setCell ⟨g, 5, none⟩ v5).setCell ⟨g, 6, none⟩ v6).setCell ⟨g, 7, none⟩ v7) :=
  ⟨far8v h.kh (by omega), far8v h.zh (by omega), far8v h.sh (by omega), bts8v h.bh hA, below8v h.wh (by omega)⟩
/-- a store into field 3 of the segment -/
theorem SxS.put3 {w0 w : World} {k : K8} {v0 v1 v2 v3 v : Value} {A : Option Addr} {l : List UInt8} (h : SxS w0 k [v0, v1, v2, v3] A l w) (hA : ∀ b o, A = some ⟨b, o, none⟩ → b < w0.heap.size) : SxS w0 k [v0, v1, v2, v] A l (w.setCell ⟨w0.heap.size + 1 + 1, 3, none⟩ v) :=
  ⟨h.kh.far (p := ⟨w0.heap.size + 1 + 1, 3, none⟩) (show w0.heap.size ≠ w0.heap.size + 1 + 1 by omega) v, h.zh.far (p := ⟨w0.heap.size + 1 + 1, 3, none⟩) (show w0.heap.size + 1 ≠ w0.heap.size + 1 + 1 by omega) v, h.sh.set 3 v, bts_far h.bh (fun b o e => by have := hA b o e; omega), h.wh.setCell (p := ⟨w0.heap.size + 1 + 1, 3, none⟩) (show w0.heap.size ≤ w0.heap.size + 1 + 1 by omega) v⟩
theorem SxS.keep {w0 w w' : World} {k : K8} {s : List Value} {A : Option Addr} {l : List UInt8} (h : SxS w0 k s A l w) (hb : Below w.heap.size w w') : SxS w0 k s A l w' :=
  ⟨h.kh.below hb h.kh.lt, h.zh.below hb h.zh.lt, h.sh.below hb h.sh.lt, h.bh.below hb, h.wh.trans (hb.mono h.wh.size)⟩
theorem below4v {w0 w : World} {g B : Nat} {v0 v1 v2 v3 : Value} (h : Below B w0 w) (hb : B ≤ g) : Below B w0 ((((w.setCell ⟨g, 0, none⟩ v0).setCell ⟨g, 1, none⟩ v1).setCell ⟨g, 2, none⟩ v2).setCell ⟨g, 3, none⟩ v3) :=
  (((h.setCell (p := ⟨g, 0, none⟩) hb v0).setCell (p := ⟨g, 1, none⟩) hb v1).setCell (p := ⟨g, 2, none⟩) hb v2).setCell (p := ⟨g, 3, none⟩) hb v3
theorem put4v {w : World} {g : Nat} {t : TypeId} {u0 u1 u2 u3 v0 v1 v2 v3 : Value} (h : Holds w g t [u0, u1, u2, u3]) : Holds ((((w.setCell ⟨g, 0, none⟩ v0).setCell ⟨g, 1, none⟩ v1).setCell ⟨g, 2, none⟩ v2).setCell ⟨g, 3, none⟩ v3) g t [v0, v1, v2, v3] :=
  (((h.set 0 v0).set 1 v1).set 2 v2).set 3 v3
theorem own4v {w : World} {g base c : Nat} {A : Option Addr} {l : List UInt8} {v0 v1 v2 v3 : Value} (h : Own w base A c l) (hb : g < base) : Own ((((w.setCell ⟨g, 0, none⟩ v0).setCell ⟨g, 1, none⟩ v1).setCell ⟨g, 2, none⟩ v2).setCell ⟨g, 3, none⟩ v3) base A c l :=
  own_far (own_far (own_far (own_far h hb) hb) hb) hb
/-- two facts of a world are kept, the world becomes a letter -/
theorem two_worlds {C A B : World → Prop} {w : World} (hA : A w) (hB : B w) (h : ∀ wx, A wx → B wx → C wx) : C w := h w hA hB
end Go.Proofs.Ytcdklmicbbcknaa

namespace Go.Proofs.Ytcdklmicbbcknaa
open Go Go.RowKit
set_option maxRecDepth 20000 in
set_option maxHeartbeats 16000000 in
theorem sget_5 (k : K8) (b o : Nat) (l : List UInt8) (c at_ : Nat) (place : Int) (w : World) (hl : l.length ≤ 100000) (hlc : l.length ≤ c) (hB : Bts w (some ⟨b, o, none⟩) l) (h : at_ < l.length) (y : Nat) (hy : Hid ((l.getD at_ 0).toNat = y)) (hy1 : 1 ≤ y) (hy3 : y ≤ 3) (P t : Nat) (hN : Hid (numL l (at_ + 1) 1048576 = (P, t, 0))) (ht : t ≤ l.length) (hat : at_ < t)
    (n t2 : Nat) (hN2 : Hid (numL l t 12100 = (n, t2, 0))) (ht2 : t2 ≤ l.length) (htt : t < t2) (hlong : n + 8 ≤ l.length - t2) (hd : Hid (decide (tagL k P ((l.drop at_).take (t2 + n - at_)) = (l.drop (t2 + n)).take 8) = false)) :
    Calls Try.prog 59 #[.agg k.vals.toArray, .slice (some ⟨b, o, none⟩) l.length c, .int .i64 at_, .int .i64 place] w fun e w' => e = .returned (.tuple #[zseg, .int .i64 at_, .int .i64 4]) ∧ Below w.heap.size w w' := by
  obtain ⟨T, hT⟩ : ∃ T, Hid (T = (l.drop at_).take (t2 + n - at_)) := ⟨_, rfl⟩
  obtain ⟨U, hU⟩ : ∃ U, Hid (U = (l.drop (t2 + n)).take 8) := ⟨_, rfl⟩
  have hb0 : Below w.heap.size w ((w.alloc (.cells k.vals.toArray 28)).alloc (.cells #[.int .i64 0, .int .i64 0, .bool false, .slice none 0 0] 81)) := ((Below.refl _ _).alloc (Nat.le_refl _) _).alloc (by simp) _
  have hb1 := hb0.alloc (by simp; omega) (.cells #[.int .i64 y, .int .i64 0, .bool ((y : Int) == 3), .slice none 0 0] 81)
  have hb2 := hb0.alloc (by simp; omega) (.cells #[.int .i64 (y : Int), .int .i64 (P : Int), .bool ((y : Int) == 3), .slice none 0 0] 81)
  have hk2 := ((Holds.newAt w 28 [.int .u32 (W k.k0), .int .u32 (W k.k1), .int .u32 (W k.k2), .int .u32 (W k.k3), .int .u32 (W k.k4), .int .u32 (W k.k5), .int .u32 (W k.k6), .int .u32 (W k.k7)] (n := w.heap.size) rfl).alloc (.cells #[.int .i64 0, .int .i64 0, .bool false, .slice none 0 0] 81)).alloc (.cells #[.int .i64 (y : Int), .int .i64 (P : Int), .bool ((y : Int) == 3), .slice none 0 0] 81)
  have hz2 := (Holds.newAt (w.alloc (.cells #[.int .u32 (W k.k0), .int .u32 (W k.k1), .int .u32 (W k.k2), .int .u32 (W k.k3), .int .u32 (W k.k4), .int .u32 (W k.k5), .int .u32 (W k.k6), .int .u32 (W k.k7)] 28)) 81 [.int .i64 0, .int .i64 0, .bool false, .slice none 0 0] (n := w.heap.size + 1) (by simp)).alloc (.cells #[.int .i64 (y : Int), .int .i64 (P : Int), .bool ((y : Int) == 3), .slice none 0 0] 81)
  have hs2 := Holds.newAt ((w.alloc (.cells #[.int .u32 (W k.k0), .int .u32 (W k.k1), .int .u32 (W k.k2), .int .u32 (W k.k3), .int .u32 (W k.k4), .int .u32 (W k.k5), .int .u32 (W k.k6), .int .u32 (W k.k7)] 28)).alloc (.cells #[.int .i64 0, .int .i64 0, .bool false, .slice none 0 0] 81)) 81 [.int .i64 (y : Int), .int .i64 (P : Int), .bool ((y : Int) == 3), .slice none 0 0] (n := w.heap.size + 1 + 1) (by simp)
  unfold K8.vals at *
  have HB1 := Lib.hid (hB.below hb1)
  have HS2 : Hid (SxS w k [.int .i64 (y : Int), .int .i64 (P : Int), .bool ((y : Int) == 3), .slice none 0 0] (some ⟨b, o, none⟩) l _) := Lib.hid ⟨hk2, hz2, hs2, hB.below hb2, hb2⟩
  have hbw : Hid (b < w.heap.size) := by
    obtain ⟨b9, o9, e9, hlt, _⟩ := hB (by omega)
    injection e9 with e9
    injection e9 with e3 e4
    subst e3
    exact Lib.hid hlt
  obtain ⟨b', o', e', hbs, hcs⟩ := (hB.below hb0) (by omega)
  injection e' with e'
  injection e' with e1 e2
  subst e1 e2
  have hc := hcs at_ h
  rw [hy.out] at hc
  clear hcs hB hk2 hz2 hs2 hb1 hb2
  go_enter Try.func59, Try.ntmps59
  go_wp2_with fail
  refine (number_z _ l c (at_ + 1) 1048576 _ _ _ (by omega) (by omega) (by omega) (by omega) HB1.out (by omega) P t 0 hN).mono ?_
  rintro e w1 ⟨z, rfl, hz, rfl⟩
  obtain ⟨rfl, hPm⟩ := hz rfl
  clear hz
  go_wp2_with fail
  refine (number_z _ l c t 12100 _ _ _ rfl rfl ht (by omega) HS2.out.bh (by omega) _ _ _ hN2).mono ?_
  rintro e w1 ⟨z2, rfl, hz2, rfl⟩
  obtain ⟨rfl, hnm⟩ := hz2 rfl
  clear hz2 hc HB1 hb0
  go_wp2_with fail
  have hn1 : 0 ≤ (t2 : Int) + (n : Int) ∧ (t2 : Int) + (n : Int) ≤ (c : Int) := by omega
  have hn2 : ((t2 : Int) + (n : Int)).toNat = t2 + n := by omega
  have hn3 : at_ ≤ t2 + n := by omega
  have hn4 : ¬ c = at_ := by omega
  have hTl : T.length = t2 + n - at_ := by rw [hT.out, List.length_take, List.length_drop]; omega
  have hTl9 : t2 + n - at_ ≤ 100000 := by omega
  obtain ⟨t0, t1, s2, t3, t4, t5, t6, t7, hTT⟩ : ∃ t0 t1 s2 t3 t4 t5 t6 t7, Hid (tagL k P T = [t0, t1, s2, t3, t4, t5, t6, t7]) := ⟨_, _, _, _, _, _, _, _, rfl⟩
  obtain ⟨u0, u1, u2, u3, u4, u5, u6, u7, hUU⟩ := eight_of U (by rw [hU.out, List.length_take, List.length_drop]; omega)
  have hU2 : Hid ((l.drop (t2 + n)).take 8 = [u0, u1, u2, u3, u4, u5, u6, u7]) := by rw [← hU.out]; exact hUU
  have hd2 : Hid (decide (tagL k P T = U) = false) := by rw [hT.out, hU.out]; exact hd
  have hbl : ∀ {wc : World}, SxS w k [.int .i64 (y : Int), .int .i64 (P : Int), .bool ((y : Int) == 3), .slice none 0 0] (some ⟨b, o, none⟩) l wc → ∀ b' o', some (⟨b, o, none⟩ : Addr) = some ⟨b', o', none⟩ → b' ≠ wc.heap.size := fun {wc} hq b' o' e => by
    injection e with e
    injection e with e1 e2
    obtain ⟨b9, o9, e9, hlt, _⟩ := hq.bh (by omega)
    injection e9 with e9
    injection e9 with e3 e4
    omega
  have hT2 := hT
  clear hT hd
  generalize ((w.alloc (.cells #[.int .u32 (W k.k0), .int .u32 (W k.k1), .int .u32 (W k.k2), .int .u32 (W k.k3), .int .u32 (W k.k4), .int .u32 (W k.k5), .int .u32 (W k.k6), .int .u32 (W k.k7)] 28)).alloc (.cells #[.int .i64 0, .int .i64 0, .bool false, .slice none 0 0] 81)).alloc (.cells #[.int .i64 (y : Int), .int .i64 (P : Int), .bool ((y : Int) == 3), .slice none 0 0] 81) = wq at HS2 ⊢
  refine wp_region_till 10 (fun w' => SxS w k [.int .i64 (y : Int), .int .i64 (P : Int), .bool ((y : Int) == 3), .slice none 0 0] (some ⟨b, o, none⟩) l w') (fun _ => True) (by kernel_rfl) ((SxS.keep HS2.out (Below.refl _ _).drew)) trivial ?_
  show Go_ _ _ _ _ _ _ _ _ _ _ (World.drew _)
  refine Go_.take (i := 0) (oi := ⟨some 91, Op.load 28 (Operand.tmp 4), 28, _, _, none⟩) (v := ?_) rfl (by kernel_rfl) (by kernel_rfl) (by kernel_rfl) rfl (fun _ _ _ h => h) (Or.inl ⟨by rfl, ?_⟩) ?_
  rotate_left; · intro w0 hS; obtain ⟨hH, hZ0, hS4, hBB, hW⟩ : SxS w k [.int .i64 (y : Int), .int .i64 (P : Int), .bool ((y : Int) == 3), .slice none 0 0] (some ⟨b, o, none⟩) l w0 := hS; have h8 := hH.eight; have h4 := hS4.four; go_simp; try with_reducible rfl
  try simp only [Act.put, List.setIfInBounds_toArray, List.set_cons_zero, List.set_cons_succ]
  refine Go_.take (i := 1) (oi := ⟨some 92, Op.fieldAddr 81 (Operand.tmp 11) 1, 0, _, _, none⟩) (v := ?_) rfl (by kernel_rfl) (by kernel_rfl) (by kernel_rfl) rfl (fun _ _ _ h => h) (Or.inl ⟨by rfl, ?_⟩) ?_
  rotate_left; · intro w0 _; go_simp; try with_reducible rfl
  try simp only [Act.put, List.setIfInBounds_toArray, List.set_cons_zero, List.set_cons_succ]
  refine Go_.take (i := 2) (oi := ⟨some 93, Op.load 3 (Operand.tmp 92), 3, _, _, none⟩) (v := ?_) rfl (by kernel_rfl) (by kernel_rfl) (by kernel_rfl) rfl (fun _ _ _ h => h) (Or.inl ⟨by rfl, ?_⟩) ?_
  rotate_left; · intro w0 hS; obtain ⟨hH, hZ0, hS4, hBB, hW⟩ : SxS w k [.int .i64 (y : Int), .int .i64 (P : Int), .bool ((y : Int) == 3), .slice none 0 0] (some ⟨b, o, none⟩) l w0 := hS; have h8 := hH.eight; have h4 := hS4.four; go_simp; try with_reducible rfl
  try simp only [Act.put, List.setIfInBounds_toArray, List.set_cons_zero, List.set_cons_succ]
  refine Go_.take (i := 3) (oi := ⟨some 94, Op.move (Operand.tmp 1), 24, _, _, none⟩) (v := ?_) rfl (by kernel_rfl) (by kernel_rfl) (by kernel_rfl) rfl (fun _ _ _ h => h) (Or.inl ⟨by rfl, ?_⟩) ?_
  rotate_left; · intro w0 _; go_simp; try with_reducible rfl
  try simp only [Act.put, List.setIfInBounds_toArray, List.set_cons_zero, List.set_cons_succ]
  refine Go_.take (i := 4) (oi := ⟨some 95, Op.move (Operand.tmp 2), 3, _, _, none⟩) (v := ?_) rfl (by kernel_rfl) (by kernel_rfl) (by kernel_rfl) rfl (fun _ _ _ h => h) (Or.inl ⟨by rfl, ?_⟩) ?_
  rotate_left; · intro w0 _; go_simp; try with_reducible rfl
  try simp only [Act.put, List.setIfInBounds_toArray, List.set_cons_zero, List.set_cons_succ]
  refine Go_.take (i := 5) (oi := ⟨some 96, Op.move (Operand.tmp 15), 3, _, _, none⟩) (v := ?_) rfl (by kernel_rfl) (by kernel_rfl) (by kernel_rfl) rfl (fun _ _ _ h => h) (Or.inl ⟨by rfl, ?_⟩) ?_
  rotate_left; · intro w0 _; go_simp; try with_reducible rfl
  try simp only [Act.put, List.setIfInBounds_toArray, List.set_cons_zero, List.set_cons_succ]
  refine Go_.take (i := 6) (oi := ⟨some 97, Op.slice 24 (Operand.tmp 94) (some (Operand.tmp 95)) (some (Operand.tmp 96)) none, 24, _, _, none⟩) (v := ?_) rfl (by kernel_rfl) (by kernel_rfl) (by kernel_rfl) rfl (fun _ _ _ h => h) (Or.inl ⟨by rfl, ?_⟩) ?_
  rotate_left; · intro w0 _; go_simp; try with_reducible rfl
  try simp only [Act.put, List.setIfInBounds_toArray, List.set_cons_zero, List.set_cons_succ]
  refine Go_.step2 (i := 7) (j := 8) (oi := ⟨some 98, Op.call { callee := Callee.value (Operand.func 25), args := #[Operand.tmp 91, Operand.tmp 93, Operand.tmp 97], argTypes := #[28, 3, 24] }, 26, _, _, none⟩) (oj := ⟨some 16, Op.alloc 26, 0, _, _, none⟩) (by kernel_rfl) rfl rfl (fun K hT hK => ?_) (fun K hT hK => ?_)
  · replace hT := hT.1
    rw [if_pos (by rfl)]
    go_simp
    refine (sx_of k P _ T _ (c - at_) hTl _ _ _ _ _ _ _ _ hTT (by omega) _ (hT2.out ▸ (hT.bh.part (by omega) at_ (t2 + n - at_) (by omega)))).mono ?_
    rintro e w7 ⟨rfl, hb7⟩
    refine hK.out _ _ (Till.of (SxS.keep hT hb7)) ?_
    clear hT hK K
    refine Go_.step (i := 8) (o := ⟨some 16, Op.alloc 26, 0, _, _, none⟩) (by kernel_rfl) rfl (fun K hT hK => ?_)
    replace hT := hT.1
    rw [if_pos (by rfl)]
    refine wp_al26 rfl ?_
    intro w8 h8z hb8
    have hl8 := hT.sh.lt
    have hlb := hbl hT
    first | (change Holds w8 wq.heap.size 26 _ at h8z; change _ < wq.heap.size at hl8; change ∀ b9 o9, _ = _ → b9 ≠ wq.heap.size at hlb) | skip
    refine hK.out _ _ (Till.of (SxS.keep hT hb8)) ?_
    clear hT hK K
    refine Go_.step (i := 9) (o := ⟨none, Op.store 26 (Operand.tmp 16) (Operand.tmp 98), 0, _, _, none⟩) (by kernel_rfl) rfl (fun K hT hK => ?_)
    replace hT := hT.1
    rw [if_pos (by rfl)]
    refine with_holds (t := 26) (by first | exact h8z | exact h8z.below hb7 h8z.lt) (fun hh => ?_)
    have z8 := hh.eight
    have zf := hh.eightFree
    have hS8 := set8v (v0 := .int .u8 (t0.toNat : Int)) (v1 := .int .u8 (t1.toNat : Int)) (v2 := .int .u8 (s2.toNat : Int)) (v3 := .int .u8 (t3.toNat : Int)) (v4 := .int .u8 (t4.toNat : Int)) (v5 := .int .u8 (t5.toNat : Int)) (v6 := .int .u8 (t6.toNat : Int)) (v7 := .int .u8 (t7.toNat : Int)) hh
    clear hh
    go_simp
    refine hK.out _ _ (Till.of (SxS.set hT hl8 hlb)) ?_
    clear hT hK K
    refine Go_.doneA (by kernel_rfl) (fun hA => ?_)
    clear hlb h8z hb8 hb7 z8 zf
    refine two_worlds (A := fun w' => SxS w k [.int .i64 (y : Int), .int .i64 (P : Int), .bool ((y : Int) == 3), .slice none 0 0] (some ⟨b, o, none⟩) l w') (B := fun w' => Holds w' (w7.heap.size) 26 [.int .u8 (t0.toNat : Int), .int .u8 (t1.toNat : Int), .int .u8 (s2.toNat : Int), .int .u8 (t3.toNat : Int), .int .u8 (t4.toNat : Int), .int .u8 (t5.toNat : Int), .int .u8 (t6.toNat : Int), .int .u8 (t7.toNat : Int)]) hA hS8 (fun wx hA hS9 => ?_)
    have HQ := Lib.hid (And.intro (SxS.keep hA (Below.refl _ _).drew) (hS9.drew))
    clear hA hS8 hS9
    go_wp2_with fail
    have hm1 : IntKind.i64.wrap ((t2 : Int) + (n : Int) + 8) = (t2 : Int) + (n : Int) + 8 := by simp [IntKind.wrap, IntKind.bits, IntKind.signed]; omega
    have hm2 : 0 ≤ (t2 : Int) + (n : Int) + 8 ∧ (t2 : Int) + (n : Int) + 8 ≤ (c : Int) := by omega
    have hm3 : ((t2 : Int) + (n : Int) + 8).toNat = t2 + n + 8 := by omega
    have hm4 : ¬ c = t2 + n := by omega
    have hm5 : (t2 : Int) + (n : Int) ≤ (t2 : Int) + (n : Int) + 8 := by omega
    have hm6 : t2 + n + 8 - (t2 + n) = 8 := by omega
    have harr : ∀ c9 w9, (Instr.arrayAt 26 (.slice (some ⟨b, o + (t2 + n), none⟩) 8 c9)).run Try.prog w9 = .ok (.pointer (some ⟨b, o + (t2 + n), none⟩)) w9 := fun c9 w9 => run_arrayAt (P := Try.prog) w9 26 5 8 _ 8 c9 Try.underlying26 (Nat.le_refl _)
    refine wp_region_till 10 (fun w' => SxS w k [.int .i64 (y : Int), .int .i64 (P : Int), .bool ((y : Int) == 3), .slice none 0 0] (some ⟨b, o, none⟩) l w' ∧ Holds w' (w7.heap.size) 26 [.int .u8 (t0.toNat : Int), .int .u8 (t1.toNat : Int), .int .u8 (s2.toNat : Int), .int .u8 (t3.toNat : Int), .int .u8 (t4.toNat : Int), .int .u8 (t5.toNat : Int), .int .u8 (t6.toNat : Int), .int .u8 (t7.toNat : Int)]) (fun _ => True) (by kernel_rfl) (HQ.out) trivial ?_
    show Go_ _ _ _ _ _ _ _ _ _ _ (World.drew _)
    refine Go_.take (i := 0) (oi := ⟨some 99, Op.load 26 (Operand.tmp 16), 26, _, _, none⟩) (v := ?_) rfl (by kernel_rfl) (by kernel_rfl) (by kernel_rfl) rfl (fun _ _ _ h => h) (Or.inl ⟨by rfl, ?_⟩) ?_
    rotate_left; · intro w0 hS; obtain ⟨⟨hH, hZ0, hS4, hBB, hW⟩, hT8⟩ : SxS w k [.int .i64 (y : Int), .int .i64 (P : Int), .bool ((y : Int) == 3), .slice none 0 0] (some ⟨b, o, none⟩) l w0 ∧ Holds w0 (w7.heap.size) 26 [.int .u8 (t0.toNat : Int), .int .u8 (t1.toNat : Int), .int .u8 (s2.toNat : Int), .int .u8 (t3.toNat : Int), .int .u8 (t4.toNat : Int), .int .u8 (t5.toNat : Int), .int .u8 (t6.toNat : Int), .int .u8 (t7.toNat : Int)] := hS; have h8 := hH.eight; have h4 := hS4.four; have ht8 := hT8.eight; have hu8 := bts_8 (i := t2 + n) hBB (by omega) hU2; go_simp; try with_reducible rfl
    try simp only [Act.put, List.setIfInBounds_toArray, List.set_cons_zero, List.set_cons_succ]
    refine Go_.take (i := 1) (oi := ⟨some 100, Op.move (Operand.tmp 1), 24, _, _, none⟩) (v := ?_) rfl (by kernel_rfl) (by kernel_rfl) (by kernel_rfl) rfl (fun _ _ _ h => h) (Or.inl ⟨by rfl, ?_⟩) ?_
    rotate_left; · intro w0 _; go_simp; try with_reducible rfl
    try simp only [Act.put, List.setIfInBounds_toArray, List.set_cons_zero, List.set_cons_succ]
    refine Go_.take (i := 2) (oi := ⟨some 101, Op.move (Operand.tmp 15), 3, _, _, none⟩) (v := ?_) rfl (by kernel_rfl) (by kernel_rfl) (by kernel_rfl) rfl (fun _ _ _ h => h) (Or.inl ⟨by rfl, ?_⟩) ?_
    rotate_left; · intro w0 _; go_simp; try with_reducible rfl
    try simp only [Act.put, List.setIfInBounds_toArray, List.set_cons_zero, List.set_cons_succ]
    refine Go_.take (i := 3) (oi := ⟨some 102, Op.move (Operand.tmp 15), 3, _, _, none⟩) (v := ?_) rfl (by kernel_rfl) (by kernel_rfl) (by kernel_rfl) rfl (fun _ _ _ h => h) (Or.inl ⟨by rfl, ?_⟩) ?_
    rotate_left; · intro w0 _; go_simp; try with_reducible rfl
    try simp only [Act.put, List.setIfInBounds_toArray, List.set_cons_zero, List.set_cons_succ]
    refine Go_.take (i := 4) (oi := ⟨some 103, Op.binOp BinOp.add 3 (Operand.tmp 102) (Operand.const (Value.int IntKind.i64 8)) 3, 3, _, _, none⟩) (v := ?_) rfl (by kernel_rfl) (by kernel_rfl) (by kernel_rfl) rfl (fun _ _ _ h => h) (Or.inl ⟨by rfl, ?_⟩) ?_
    rotate_left; · intro w0 _; go_simp; try with_reducible rfl
    try simp only [Act.put, List.setIfInBounds_toArray, List.set_cons_zero, List.set_cons_succ]
    refine Go_.take (i := 5) (oi := ⟨some 104, Op.slice 24 (Operand.tmp 100) (some (Operand.tmp 101)) (some (Operand.tmp 103)) none, 24, _, _, none⟩) (v := ?_) rfl (by kernel_rfl) (by kernel_rfl) (by kernel_rfl) rfl (fun _ _ _ h => h) (Or.inl ⟨by rfl, ?_⟩) ?_
    rotate_left; · intro w0 _; go_simp; try with_reducible rfl
    try simp only [Act.put, List.setIfInBounds_toArray, List.set_cons_zero, List.set_cons_succ]
    refine Go_.take (i := 6) (oi := ⟨some 105, Op.sliceToArrayPointer 26 (Operand.tmp 104), 0, _, _, none⟩) (v := ?_) rfl (by kernel_rfl) (by kernel_rfl) (by kernel_rfl) rfl (fun _ _ _ h => h) (Or.inl ⟨by rfl, ?_⟩) ?_
    rotate_left; · intro w0 _; go_simp; try with_reducible rfl
    try simp only [Act.put, List.setIfInBounds_toArray, List.set_cons_zero, List.set_cons_succ]
    refine Go_.take (i := 7) (oi := ⟨some 106, Op.load 26 (Operand.tmp 105), 26, _, _, none⟩) (v := ?_) rfl (by kernel_rfl) (by kernel_rfl) (by kernel_rfl) rfl (fun _ _ _ h => h) (Or.inl ⟨by rfl, ?_⟩) ?_
    rotate_left; · intro w0 hS; obtain ⟨⟨hH, hZ0, hS4, hBB, hW⟩, hT8⟩ : SxS w k [.int .i64 (y : Int), .int .i64 (P : Int), .bool ((y : Int) == 3), .slice none 0 0] (some ⟨b, o, none⟩) l w0 ∧ Holds w0 (w7.heap.size) 26 [.int .u8 (t0.toNat : Int), .int .u8 (t1.toNat : Int), .int .u8 (s2.toNat : Int), .int .u8 (t3.toNat : Int), .int .u8 (t4.toNat : Int), .int .u8 (t5.toNat : Int), .int .u8 (t6.toNat : Int), .int .u8 (t7.toNat : Int)] := hS; have h8 := hH.eight; have h4 := hS4.four; have ht8 := hT8.eight; have hu8 := bts_8 (i := t2 + n) hBB (by omega) hU2; go_simp; try with_reducible rfl
    try simp only [Act.put, List.setIfInBounds_toArray, List.set_cons_zero, List.set_cons_succ]
    refine Go_.step (i := 8) (o := ⟨some 107, Op.call { callee := Callee.value (Operand.func 29), args := #[Operand.tmp 99, Operand.tmp 106], argTypes := #[26, 26] }, 4, _, _, none⟩) (by kernel_rfl) rfl (fun K hT hK => ?_)
    replace hT := hT.1
    rw [if_pos (by rfl)]
    go_simp
    refine (sx_same _ _ _ _ _ _ _ _ _ _ _ _ _ _ _ _ _ _ hTT hUU false hd2 _).mono ?_
    rintro e w9 ⟨rfl, hb9⟩
    refine hK.out _ _ (Till.of ⟨SxS.keep hT.1 hb9, hT.2.below hb9 hT.2.lt⟩) ?_
    clear hT hK K
    refine Go_.take (i := 9) (oi := ⟨some 108, Op.unOp UnOp.not 4 (Operand.tmp 107), 4, _, _, none⟩) (v := ?_) rfl (by kernel_rfl) (by kernel_rfl) (by kernel_rfl) rfl (fun _ _ _ h => h) (Or.inl ⟨by rfl, ?_⟩) ?_
    rotate_left; · intro w0 _; go_simp; try with_reducible rfl
    try simp only [Act.put, List.setIfInBounds_toArray, List.set_cons_zero, List.set_cons_succ]
    refine Go_.doneA (by kernel_rfl) (fun hA2 => ?_)
    have HP := Lib.hid hA2.1
    have hzf := hA2.1.zh.fourFree
    have hz4 := hA2.1.zh.four
    have hs4 := hA2.1.sh.four
    have hbW := hA2.1.wh
    have hp1 := hA2.1.sh.lt
    clear hA2
    go_wp2_with fail
    have hzs := (put4v (v0 := .int .i64 0) (v1 := .int .i64 0) (v2 := .bool false) (v3 := .slice none 0 0) HP.out.zh).four
    exact bodyPost_ret (v := .tuple #[zseg, .int .i64 at_, .int .i64 4]) (by simp [results, Try.results59, go_sem, zseg, hzs]) rfl ⟨rfl, below4v hbW (by omega)⟩
  · replace hT := hT.1
    rw [if_pos (by rfl)]
    refine wp_al26 rfl ?_
    intro w8 h8z hb8
    have hl8 := hT.sh.lt
    have hlb := hbl hT
    first | (change Holds w8 wq.heap.size 26 _ at h8z; change _ < wq.heap.size at hl8; change ∀ b9 o9, _ = _ → b9 ≠ wq.heap.size at hlb) | skip
    refine hK.out _ _ (Till.of (SxS.keep hT hb8)) ?_
    clear hT hK K
    refine Go_.step (i := 7) (o := ⟨some 98, Op.call { callee := Callee.value (Operand.func 25), args := #[Operand.tmp 91, Operand.tmp 93, Operand.tmp 97], argTypes := #[28, 3, 24] }, 26, _, _, none⟩) (by kernel_rfl) rfl (fun K hT hK => ?_)
    replace hT := hT.1
    rw [if_pos (by rfl)]
    go_simp
    refine (sx_of k P _ T _ (c - at_) hTl _ _ _ _ _ _ _ _ hTT (by omega) _ (hT2.out ▸ (hT.bh.part (by omega) at_ (t2 + n - at_) (by omega)))).mono ?_
    rintro e w7 ⟨rfl, hb7⟩
    refine hK.out _ _ (Till.of (SxS.keep hT hb7)) ?_
    clear hT hK K
    refine Go_.step (i := 9) (o := ⟨none, Op.store 26 (Operand.tmp 16) (Operand.tmp 98), 0, _, _, none⟩) (by kernel_rfl) rfl (fun K hT hK => ?_)
    replace hT := hT.1
    rw [if_pos (by rfl)]
    refine with_holds (t := 26) (by first | exact h8z | exact h8z.below hb7 h8z.lt) (fun hh => ?_)
    have z8 := hh.eight
    have zf := hh.eightFree
    have hS8 := set8v (v0 := .int .u8 (t0.toNat : Int)) (v1 := .int .u8 (t1.toNat : Int)) (v2 := .int .u8 (s2.toNat : Int)) (v3 := .int .u8 (t3.toNat : Int)) (v4 := .int .u8 (t4.toNat : Int)) (v5 := .int .u8 (t5.toNat : Int)) (v6 := .int .u8 (t6.toNat : Int)) (v7 := .int .u8 (t7.toNat : Int)) hh
    clear hh
    go_simp
    refine hK.out _ _ (Till.of (SxS.set hT hl8 hlb)) ?_
    clear hT hK K
    refine Go_.doneA (by kernel_rfl) (fun hA => ?_)
    clear hlb h8z hb8 hb7 z8 zf
    refine two_worlds (A := fun w' => SxS w k [.int .i64 (y : Int), .int .i64 (P : Int), .bool ((y : Int) == 3), .slice none 0 0] (some ⟨b, o, none⟩) l w') (B := fun w' => Holds w' (wq.heap.size) 26 [.int .u8 (t0.toNat : Int), .int .u8 (t1.toNat : Int), .int .u8 (s2.toNat : Int), .int .u8 (t3.toNat : Int), .int .u8 (t4.toNat : Int), .int .u8 (t5.toNat : Int), .int .u8 (t6.toNat : Int), .int .u8 (t7.toNat : Int)]) hA hS8 (fun wx hA hS9 => ?_)
    have HQ := Lib.hid (And.intro (SxS.keep hA (Below.refl _ _).drew) (hS9.drew))
    clear hA hS8 hS9
    go_wp2_with fail
    have hm1 : IntKind.i64.wrap ((t2 : Int) + (n : Int) + 8) = (t2 : Int) + (n : Int) + 8 := by simp [IntKind.wrap, IntKind.bits, IntKind.signed]; omega
    have hm2 : 0 ≤ (t2 : Int) + (n : Int) + 8 ∧ (t2 : Int) + (n : Int) + 8 ≤ (c : Int) := by omega
    have hm3 : ((t2 : Int) + (n : Int) + 8).toNat = t2 + n + 8 := by omega
    have hm4 : ¬ c = t2 + n := by omega
    have hm5 : (t2 : Int) + (n : Int) ≤ (t2 : Int) + (n : Int) + 8 := by omega
    have hm6 : t2 + n + 8 - (t2 + n) = 8 := by omega
    have harr : ∀ c9 w9, (Instr.arrayAt 26 (.slice (some ⟨b, o + (t2 + n), none⟩) 8 c9)).run Try.prog w9 = .ok (.pointer (some ⟨b, o + (t2 + n), none⟩)) w9 := fun c9 w9 => run_arrayAt (P := Try.prog) w9 26 5 8 _ 8 c9 Try.underlying26 (Nat.le_refl _)
    refine wp_region_till 10 (fun w' => SxS w k [.int .i64 (y : Int), .int .i64 (P : Int), .bool ((y : Int) == 3), .slice none 0 0] (some ⟨b, o, none⟩) l w' ∧ Holds w' (wq.heap.size) 26 [.int .u8 (t0.toNat : Int), .int .u8 (t1.toNat : Int), .int .u8 (s2.toNat : Int), .int .u8 (t3.toNat : Int), .int .u8 (t4.toNat : Int), .int .u8 (t5.toNat : Int), .int .u8 (t6.toNat : Int), .int .u8 (t7.toNat : Int)]) (fun _ => True) (by kernel_rfl) (HQ.out) trivial ?_
    show Go_ _ _ _ _ _ _ _ _ _ _ (World.drew _)
    refine Go_.take (i := 0) (oi := ⟨some 99, Op.load 26 (Operand.tmp 16), 26, _, _, none⟩) (v := ?_) rfl (by kernel_rfl) (by kernel_rfl) (by kernel_rfl) rfl (fun _ _ _ h => h) (Or.inl ⟨by rfl, ?_⟩) ?_
    rotate_left; · intro w0 hS; obtain ⟨⟨hH, hZ0, hS4, hBB, hW⟩, hT8⟩ : SxS w k [.int .i64 (y : Int), .int .i64 (P : Int), .bool ((y : Int) == 3), .slice none 0 0] (some ⟨b, o, none⟩) l w0 ∧ Holds w0 (wq.heap.size) 26 [.int .u8 (t0.toNat : Int), .int .u8 (t1.toNat : Int), .int .u8 (s2.toNat : Int), .int .u8 (t3.toNat : Int), .int .u8 (t4.toNat : Int), .int .u8 (t5.toNat : Int), .int .u8 (t6.toNat : Int), .int .u8 (t7.toNat : Int)] := hS; have h8 := hH.eight; have h4 := hS4.four; have ht8 := hT8.eight; have hu8 := bts_8 (i := t2 + n) hBB (by omega) hU2; go_simp; try with_reducible rfl
    try simp only [Act.put, List.setIfInBounds_toArray, List.set_cons_zero, List.set_cons_succ]
    refine Go_.take (i := 1) (oi := ⟨some 100, Op.move (Operand.tmp 1), 24, _, _, none⟩) (v := ?_) rfl (by kernel_rfl) (by kernel_rfl) (by kernel_rfl) rfl (fun _ _ _ h => h) (Or.inl ⟨by rfl, ?_⟩) ?_
    rotate_left; · intro w0 _; go_simp; try with_reducible rfl
    try simp only [Act.put, List.setIfInBounds_toArray, List.set_cons_zero, List.set_cons_succ]
    refine Go_.take (i := 2) (oi := ⟨some 101, Op.move (Operand.tmp 15), 3, _, _, none⟩) (v := ?_) rfl (by kernel_rfl) (by kernel_rfl) (by kernel_rfl) rfl (fun _ _ _ h => h) (Or.inl ⟨by rfl, ?_⟩) ?_
    rotate_left; · intro w0 _; go_simp; try with_reducible rfl
    try simp only [Act.put, List.setIfInBounds_toArray, List.set_cons_zero, List.set_cons_succ]
    refine Go_.take (i := 3) (oi := ⟨some 102, Op.move (Operand.tmp 15), 3, _, _, none⟩) (v := ?_) rfl (by kernel_rfl) (by kernel_rfl) (by kernel_rfl) rfl (fun _ _ _ h => h) (Or.inl ⟨by rfl, ?_⟩) ?_
    rotate_left; · intro w0 _; go_simp; try with_reducible rfl
    try simp only [Act.put, List.setIfInBounds_toArray, List.set_cons_zero, List.set_cons_succ]
    refine Go_.take (i := 4) (oi := ⟨some 103, Op.binOp BinOp.add 3 (Operand.tmp 102) (Operand.const (Value.int IntKind.i64 8)) 3, 3, _, _, none⟩) (v := ?_) rfl (by kernel_rfl) (by kernel_rfl) (by kernel_rfl) rfl (fun _ _ _ h => h) (Or.inl ⟨by rfl, ?_⟩) ?_
    rotate_left; · intro w0 _; go_simp; try with_reducible rfl
    try simp only [Act.put, List.setIfInBounds_toArray, List.set_cons_zero, List.set_cons_succ]
    refine Go_.take (i := 5) (oi := ⟨some 104, Op.slice 24 (Operand.tmp 100) (some (Operand.tmp 101)) (some (Operand.tmp 103)) none, 24, _, _, none⟩) (v := ?_) rfl (by kernel_rfl) (by kernel_rfl) (by kernel_rfl) rfl (fun _ _ _ h => h) (Or.inl ⟨by rfl, ?_⟩) ?_
    rotate_left; · intro w0 _; go_simp; try with_reducible rfl
    try simp only [Act.put, List.setIfInBounds_toArray, List.set_cons_zero, List.set_cons_succ]
    refine Go_.take (i := 6) (oi := ⟨some 105, Op.sliceToArrayPointer 26 (Operand.tmp 104), 0, _, _, none⟩) (v := ?_) rfl (by kernel_rfl) (by kernel_rfl) (by kernel_rfl) rfl (fun _ _ _ h => h) (Or.inl ⟨by rfl, ?_⟩) ?_
    rotate_left; · intro w0 _; go_simp; try with_reducible rfl
    try simp only [Act.put, List.setIfInBounds_toArray, List.set_cons_zero, List.set_cons_succ]
    refine Go_.take (i := 7) (oi := ⟨some 106, Op.load 26 (Operand.tmp 105), 26, _, _, none⟩) (v := ?_) rfl (by kernel_rfl) (by kernel_rfl) (by kernel_rfl) rfl (fun _ _ _ h => h) (Or.inl ⟨by rfl, ?_⟩) ?_
    rotate_left; · intro w0 hS; obtain ⟨⟨hH, hZ0, hS4, hBB, hW⟩, hT8⟩ : SxS w k [.int .i64 (y : Int), .int .i64 (P : Int), .bool ((y : Int) == 3), .slice none 0 0] (some ⟨b, o, none⟩) l w0 ∧ Holds w0 (wq.heap.size) 26 [.int .u8 (t0.toNat : Int), .int .u8 (t1.toNat : Int), .int .u8 (s2.toNat : Int), .int .u8 (t3.toNat : Int), .int .u8 (t4.toNat : Int), .int .u8 (t5.toNat : Int), .int .u8 (t6.toNat : Int), .int .u8 (t7.toNat : Int)] := hS; have h8 := hH.eight; have h4 := hS4.four; have ht8 := hT8.eight; have hu8 := bts_8 (i := t2 + n) hBB (by omega) hU2; go_simp; try with_reducible rfl
    try simp only [Act.put, List.setIfInBounds_toArray, List.set_cons_zero, List.set_cons_succ]
    refine Go_.step (i := 8) (o := ⟨some 107, Op.call { callee := Callee.value (Operand.func 29), args := #[Operand.tmp 99, Operand.tmp 106], argTypes := #[26, 26] }, 4, _, _, none⟩) (by kernel_rfl) rfl (fun K hT hK => ?_)
    replace hT := hT.1
    rw [if_pos (by rfl)]
    go_simp
    refine (sx_same _ _ _ _ _ _ _ _ _ _ _ _ _ _ _ _ _ _ hTT hUU false hd2 _).mono ?_
    rintro e w9 ⟨rfl, hb9⟩
    refine hK.out _ _ (Till.of ⟨SxS.keep hT.1 hb9, hT.2.below hb9 hT.2.lt⟩) ?_
    clear hT hK K
    refine Go_.take (i := 9) (oi := ⟨some 108, Op.unOp UnOp.not 4 (Operand.tmp 107), 4, _, _, none⟩) (v := ?_) rfl (by kernel_rfl) (by kernel_rfl) (by kernel_rfl) rfl (fun _ _ _ h => h) (Or.inl ⟨by rfl, ?_⟩) ?_
    rotate_left; · intro w0 _; go_simp; try with_reducible rfl
    try simp only [Act.put, List.setIfInBounds_toArray, List.set_cons_zero, List.set_cons_succ]
    refine Go_.doneA (by kernel_rfl) (fun hA2 => ?_)
    have HP := Lib.hid hA2.1
    have hzf := hA2.1.zh.fourFree
    have hz4 := hA2.1.zh.four
    have hs4 := hA2.1.sh.four
    have hbW := hA2.1.wh
    have hp1 := hA2.1.sh.lt
    clear hA2
    go_wp2_with fail
    have hzs := (put4v (v0 := .int .i64 0) (v1 := .int .i64 0) (v2 := .bool false) (v3 := .slice none 0 0) HP.out.zh).four
    exact bodyPost_ret (v := .tuple #[zseg, .int .i64 at_, .int .i64 4]) (by simp [results, Try.results59, go_sem, zseg, hzs]) rfl ⟨rfl, below4v hbW (by omega)⟩
end Go.Proofs.Ytcdklmicbbcknaa

namespace Go.Proofs.Ytcdklmicbbcknaa
open Go Go.RowKit
set_option maxRecDepth 20000 in
set_option maxHeartbeats 16000000 in
theorem sget_6 (k : K8) (b o : Nat) (l : List UInt8) (c at_ : Nat) (place : Int) (w : World) (hl : l.length ≤ 100000) (hlc : l.length ≤ c) (hB : Bts w (some ⟨b, o, none⟩) l) (h : at_ < l.length) (y : Nat) (hy : Hid ((l.getD at_ 0).toNat = y)) (hy1 : 1 ≤ y) (hy3 : y ≤ 3) (P t : Nat) (hN : Hid (numL l (at_ + 1) 1048576 = (P, t, 0))) (ht : t ≤ l.length) (hat : at_ < t)
    (n t2 : Nat) (hN2 : Hid (numL l t 12100 = (n, t2, 0))) (ht2 : t2 ≤ l.length) (htt : t < t2) (hlong : n + 8 ≤ l.length - t2) (hd : Hid (decide (tagL k P ((l.drop at_).take (t2 + n - at_)) = (l.drop (t2 + n)).take 8) = true)) (hpl : ((P : Int) == place) = false) :
    Calls Try.prog 59 #[.agg k.vals.toArray, .slice (some ⟨b, o, none⟩) l.length c, .int .i64 at_, .int .i64 place] w fun e w' => e = .returned (.tuple #[zseg, .int .i64 at_, .int .i64 2]) ∧ Below w.heap.size w w' := by
  obtain ⟨T, hT⟩ : ∃ T, Hid (T = (l.drop at_).take (t2 + n - at_)) := ⟨_, rfl⟩
  obtain ⟨U, hU⟩ : ∃ U, Hid (U = (l.drop (t2 + n)).take 8) := ⟨_, rfl⟩
  have hb0 : Below w.heap.size w ((w.alloc (.cells k.vals.toArray 28)).alloc (.cells #[.int .i64 0, .int .i64 0, .bool false, .slice none 0 0] 81)) := ((Below.refl _ _).alloc (Nat.le_refl _) _).alloc (by simp) _
  have hb1 := hb0.alloc (by simp; omega) (.cells #[.int .i64 y, .int .i64 0, .bool ((y : Int) == 3), .slice none 0 0] 81)
  have hb2 := hb0.alloc (by simp; omega) (.cells #[.int .i64 (y : Int), .int .i64 (P : Int), .bool ((y : Int) == 3), .slice none 0 0] 81)
  have hk2 := ((Holds.newAt w 28 [.int .u32 (W k.k0), .int .u32 (W k.k1), .int .u32 (W k.k2), .int .u32 (W k.k3), .int .u32 (W k.k4), .int .u32 (W k.k5), .int .u32 (W k.k6), .int .u32 (W k.k7)] (n := w.heap.size) rfl).alloc (.cells #[.int .i64 0, .int .i64 0, .bool false, .slice none 0 0] 81)).alloc (.cells #[.int .i64 (y : Int), .int .i64 (P : Int), .bool ((y : Int) == 3), .slice none 0 0] 81)
  have hz2 := (Holds.newAt (w.alloc (.cells #[.int .u32 (W k.k0), .int .u32 (W k.k1), .int .u32 (W k.k2), .int .u32 (W k.k3), .int .u32 (W k.k4), .int .u32 (W k.k5), .int .u32 (W k.k6), .int .u32 (W k.k7)] 28)) 81 [.int .i64 0, .int .i64 0, .bool false, .slice none 0 0] (n := w.heap.size + 1) (by simp)).alloc (.cells #[.int .i64 (y : Int), .int .i64 (P : Int), .bool ((y : Int) == 3), .slice none 0 0] 81)
  have hs2 := Holds.newAt ((w.alloc (.cells #[.int .u32 (W k.k0), .int .u32 (W k.k1), .int .u32 (W k.k2), .int .u32 (W k.k3), .int .u32 (W k.k4), .int .u32 (W k.k5), .int .u32 (W k.k6), .int .u32 (W k.k7)] 28)).alloc (.cells #[.int .i64 0, .int .i64 0, .bool false, .slice none 0 0] 81)) 81 [.int .i64 (y : Int), .int .i64 (P : Int), .bool ((y : Int) == 3), .slice none 0 0] (n := w.heap.size + 1 + 1) (by simp)
  unfold K8.vals at *
  have HB1 := Lib.hid (hB.below hb1)
  have HS2 : Hid (SxS w k [.int .i64 (y : Int), .int .i64 (P : Int), .bool ((y : Int) == 3), .slice none 0 0] (some ⟨b, o, none⟩) l _) := Lib.hid ⟨hk2, hz2, hs2, hB.below hb2, hb2⟩
  have hbw : Hid (b < w.heap.size) := by
    obtain ⟨b9, o9, e9, hlt, _⟩ := hB (by omega)
    injection e9 with e9
    injection e9 with e3 e4
    subst e3
    exact Lib.hid hlt
  obtain ⟨b', o', e', hbs, hcs⟩ := (hB.below hb0) (by omega)
  injection e' with e'
  injection e' with e1 e2
  subst e1 e2
  have hc := hcs at_ h
  rw [hy.out] at hc
  clear hcs hB hk2 hz2 hs2 hb1 hb2
  go_enter Try.func59, Try.ntmps59
  go_wp2_with fail
  refine (number_z _ l c (at_ + 1) 1048576 _ _ _ (by omega) (by omega) (by omega) (by omega) HB1.out (by omega) P t 0 hN).mono ?_
  rintro e w1 ⟨z, rfl, hz, rfl⟩
  obtain ⟨rfl, hPm⟩ := hz rfl
  clear hz
  go_wp2_with fail
  refine (number_z _ l c t 12100 _ _ _ rfl rfl ht (by omega) HS2.out.bh (by omega) _ _ _ hN2).mono ?_
  rintro e w1 ⟨z2, rfl, hz2, rfl⟩
  obtain ⟨rfl, hnm⟩ := hz2 rfl
  clear hz2 hc HB1 hb0
  go_wp2_with fail
  have hn1 : 0 ≤ (t2 : Int) + (n : Int) ∧ (t2 : Int) + (n : Int) ≤ (c : Int) := by omega
  have hn2 : ((t2 : Int) + (n : Int)).toNat = t2 + n := by omega
  have hn3 : at_ ≤ t2 + n := by omega
  have hn4 : ¬ c = at_ := by omega
  have hTl : T.length = t2 + n - at_ := by rw [hT.out, List.length_take, List.length_drop]; omega
  have hTl9 : t2 + n - at_ ≤ 100000 := by omega
  obtain ⟨t0, t1, s2, t3, t4, t5, t6, t7, hTT⟩ : ∃ t0 t1 s2 t3 t4 t5 t6 t7, Hid (tagL k P T = [t0, t1, s2, t3, t4, t5, t6, t7]) := ⟨_, _, _, _, _, _, _, _, rfl⟩
  obtain ⟨u0, u1, u2, u3, u4, u5, u6, u7, hUU⟩ := eight_of U (by rw [hU.out, List.length_take, List.length_drop]; omega)
  have hU2 : Hid ((l.drop (t2 + n)).take 8 = [u0, u1, u2, u3, u4, u5, u6, u7]) := by rw [← hU.out]; exact hUU
  have hd2 : Hid (decide (tagL k P T = U) = true) := by rw [hT.out, hU.out]; exact hd
  have hbl : ∀ {wc : World}, SxS w k [.int .i64 (y : Int), .int .i64 (P : Int), .bool ((y : Int) == 3), .slice none 0 0] (some ⟨b, o, none⟩) l wc → ∀ b' o', some (⟨b, o, none⟩ : Addr) = some ⟨b', o', none⟩ → b' ≠ wc.heap.size := fun {wc} hq b' o' e => by
    injection e with e
    injection e with e1 e2
    obtain ⟨b9, o9, e9, hlt, _⟩ := hq.bh (by omega)
    injection e9 with e9
    injection e9 with e3 e4
    omega
  have hT2 := hT
  clear hT hd
  generalize ((w.alloc (.cells #[.int .u32 (W k.k0), .int .u32 (W k.k1), .int .u32 (W k.k2), .int .u32 (W k.k3), .int .u32 (W k.k4), .int .u32 (W k.k5), .int .u32 (W k.k6), .int .u32 (W k.k7)] 28)).alloc (.cells #[.int .i64 0, .int .i64 0, .bool false, .slice none 0 0] 81)).alloc (.cells #[.int .i64 (y : Int), .int .i64 (P : Int), .bool ((y : Int) == 3), .slice none 0 0] 81) = wq at HS2 ⊢
  refine wp_region_till 10 (fun w' => SxS w k [.int .i64 (y : Int), .int .i64 (P : Int), .bool ((y : Int) == 3), .slice none 0 0] (some ⟨b, o, none⟩) l w') (fun _ => True) (by kernel_rfl) ((SxS.keep HS2.out (Below.refl _ _).drew)) trivial ?_
  show Go_ _ _ _ _ _ _ _ _ _ _ (World.drew _)
  refine Go_.take (i := 0) (oi := ⟨some 91, Op.load 28 (Operand.tmp 4), 28, _, _, none⟩) (v := ?_) rfl (by kernel_rfl) (by kernel_rfl) (by kernel_rfl) rfl (fun _ _ _ h => h) (Or.inl ⟨by rfl, ?_⟩) ?_
  rotate_left; · intro w0 hS; obtain ⟨hH, hZ0, hS4, hBB, hW⟩ : SxS w k [.int .i64 (y : Int), .int .i64 (P : Int), .bool ((y : Int) == 3), .slice none 0 0] (some ⟨b, o, none⟩) l w0 := hS; have h8 := hH.eight; have h4 := hS4.four; go_simp; try with_reducible rfl
  try simp only [Act.put, List.setIfInBounds_toArray, List.set_cons_zero, List.set_cons_succ]
  refine Go_.take (i := 1) (oi := ⟨some 92, Op.fieldAddr 81 (Operand.tmp 11) 1, 0, _, _, none⟩) (v := ?_) rfl (by kernel_rfl) (by kernel_rfl) (by kernel_rfl) rfl (fun _ _ _ h => h) (Or.inl ⟨by rfl, ?_⟩) ?_
  rotate_left; · intro w0 _; go_simp; try with_reducible rfl
  try simp only [Act.put, List.setIfInBounds_toArray, List.set_cons_zero, List.set_cons_succ]
  refine Go_.take (i := 2) (oi := ⟨some 93, Op.load 3 (Operand.tmp 92), 3, _, _, none⟩) (v := ?_) rfl (by kernel_rfl) (by kernel_rfl) (by kernel_rfl) rfl (fun _ _ _ h => h) (Or.inl ⟨by rfl, ?_⟩) ?_
  rotate_left; · intro w0 hS; obtain ⟨hH, hZ0, hS4, hBB, hW⟩ : SxS w k [.int .i64 (y : Int), .int .i64 (P : Int), .bool ((y : Int) == 3), .slice none 0 0] (some ⟨b, o, none⟩) l w0 := hS; have h8 := hH.eight; have h4 := hS4.four; go_simp; try with_reducible rfl
  try simp only [Act.put, List.setIfInBounds_toArray, List.set_cons_zero, List.set_cons_succ]
  refine Go_.take (i := 3) (oi := ⟨some 94, Op.move (Operand.tmp 1), 24, _, _, none⟩) (v := ?_) rfl (by kernel_rfl) (by kernel_rfl) (by kernel_rfl) rfl (fun _ _ _ h => h) (Or.inl ⟨by rfl, ?_⟩) ?_
  rotate_left; · intro w0 _; go_simp; try with_reducible rfl
  try simp only [Act.put, List.setIfInBounds_toArray, List.set_cons_zero, List.set_cons_succ]
  refine Go_.take (i := 4) (oi := ⟨some 95, Op.move (Operand.tmp 2), 3, _, _, none⟩) (v := ?_) rfl (by kernel_rfl) (by kernel_rfl) (by kernel_rfl) rfl (fun _ _ _ h => h) (Or.inl ⟨by rfl, ?_⟩) ?_
  rotate_left; · intro w0 _; go_simp; try with_reducible rfl
  try simp only [Act.put, List.setIfInBounds_toArray, List.set_cons_zero, List.set_cons_succ]
  refine Go_.take (i := 5) (oi := ⟨some 96, Op.move (Operand.tmp 15), 3, _, _, none⟩) (v := ?_) rfl (by kernel_rfl) (by kernel_rfl) (by kernel_rfl) rfl (fun _ _ _ h => h) (Or.inl ⟨by rfl, ?_⟩) ?_
  rotate_left; · intro w0 _; go_simp; try with_reducible rfl
  try simp only [Act.put, List.setIfInBounds_toArray, List.set_cons_zero, List.set_cons_succ]
  refine Go_.take (i := 6) (oi := ⟨some 97, Op.slice 24 (Operand.tmp 94) (some (Operand.tmp 95)) (some (Operand.tmp 96)) none, 24, _, _, none⟩) (v := ?_) rfl (by kernel_rfl) (by kernel_rfl) (by kernel_rfl) rfl (fun _ _ _ h => h) (Or.inl ⟨by rfl, ?_⟩) ?_
  rotate_left; · intro w0 _; go_simp; try with_reducible rfl
  try simp only [Act.put, List.setIfInBounds_toArray, List.set_cons_zero, List.set_cons_succ]
  refine Go_.step2 (i := 7) (j := 8) (oi := ⟨some 98, Op.call { callee := Callee.value (Operand.func 25), args := #[Operand.tmp 91, Operand.tmp 93, Operand.tmp 97], argTypes := #[28, 3, 24] }, 26, _, _, none⟩) (oj := ⟨some 16, Op.alloc 26, 0, _, _, none⟩) (by kernel_rfl) rfl rfl (fun K hT hK => ?_) (fun K hT hK => ?_)
  · replace hT := hT.1
    rw [if_pos (by rfl)]
    go_simp
    refine (sx_of k P _ T _ (c - at_) hTl _ _ _ _ _ _ _ _ hTT (by omega) _ (hT2.out ▸ (hT.bh.part (by omega) at_ (t2 + n - at_) (by omega)))).mono ?_
    rintro e w7 ⟨rfl, hb7⟩
    refine hK.out _ _ (Till.of (SxS.keep hT hb7)) ?_
    clear hT hK K
    refine Go_.step (i := 8) (o := ⟨some 16, Op.alloc 26, 0, _, _, none⟩) (by kernel_rfl) rfl (fun K hT hK => ?_)
    replace hT := hT.1
    rw [if_pos (by rfl)]
    refine wp_al26 rfl ?_
    intro w8 h8z hb8
    have hl8 := hT.sh.lt
    have hlb := hbl hT
    first | (change Holds w8 wq.heap.size 26 _ at h8z; change _ < wq.heap.size at hl8; change ∀ b9 o9, _ = _ → b9 ≠ wq.heap.size at hlb) | skip
    refine hK.out _ _ (Till.of (SxS.keep hT hb8)) ?_
    clear hT hK K
    refine Go_.step (i := 9) (o := ⟨none, Op.store 26 (Operand.tmp 16) (Operand.tmp 98), 0, _, _, none⟩) (by kernel_rfl) rfl (fun K hT hK => ?_)
    replace hT := hT.1
    rw [if_pos (by rfl)]
    refine with_holds (t := 26) (by first | exact h8z | exact h8z.below hb7 h8z.lt) (fun hh => ?_)
    have z8 := hh.eight
    have zf := hh.eightFree
    have hS8 := set8v (v0 := .int .u8 (t0.toNat : Int)) (v1 := .int .u8 (t1.toNat : Int)) (v2 := .int .u8 (s2.toNat : Int)) (v3 := .int .u8 (t3.toNat : Int)) (v4 := .int .u8 (t4.toNat : Int)) (v5 := .int .u8 (t5.toNat : Int)) (v6 := .int .u8 (t6.toNat : Int)) (v7 := .int .u8 (t7.toNat : Int)) hh
    clear hh
    go_simp
    refine hK.out _ _ (Till.of (SxS.set hT hl8 hlb)) ?_
    clear hT hK K
    refine Go_.doneA (by kernel_rfl) (fun hA => ?_)
    clear hlb h8z hb8 hb7 z8 zf
    refine two_worlds (A := fun w' => SxS w k [.int .i64 (y : Int), .int .i64 (P : Int), .bool ((y : Int) == 3), .slice none 0 0] (some ⟨b, o, none⟩) l w') (B := fun w' => Holds w' (w7.heap.size) 26 [.int .u8 (t0.toNat : Int), .int .u8 (t1.toNat : Int), .int .u8 (s2.toNat : Int), .int .u8 (t3.toNat : Int), .int .u8 (t4.toNat : Int), .int .u8 (t5.toNat : Int), .int .u8 (t6.toNat : Int), .int .u8 (t7.toNat : Int)]) hA hS8 (fun wx hA hS9 => ?_)
    have HQ := Lib.hid (And.intro (SxS.keep hA (Below.refl _ _).drew) (hS9.drew))
    clear hA hS8 hS9
    go_wp2_with fail
    have hm1 : IntKind.i64.wrap ((t2 : Int) + (n : Int) + 8) = (t2 : Int) + (n : Int) + 8 := by simp [IntKind.wrap, IntKind.bits, IntKind.signed]; omega
    have hm2 : 0 ≤ (t2 : Int) + (n : Int) + 8 ∧ (t2 : Int) + (n : Int) + 8 ≤ (c : Int) := by omega
    have hm3 : ((t2 : Int) + (n : Int) + 8).toNat = t2 + n + 8 := by omega
    have hm4 : ¬ c = t2 + n := by omega
    have hm5 : (t2 : Int) + (n : Int) ≤ (t2 : Int) + (n : Int) + 8 := by omega
    have hm6 : t2 + n + 8 - (t2 + n) = 8 := by omega
    have harr : ∀ c9 w9, (Instr.arrayAt 26 (.slice (some ⟨b, o + (t2 + n), none⟩) 8 c9)).run Try.prog w9 = .ok (.pointer (some ⟨b, o + (t2 + n), none⟩)) w9 := fun c9 w9 => run_arrayAt (P := Try.prog) w9 26 5 8 _ 8 c9 Try.underlying26 (Nat.le_refl _)
    refine wp_region_till 10 (fun w' => SxS w k [.int .i64 (y : Int), .int .i64 (P : Int), .bool ((y : Int) == 3), .slice none 0 0] (some ⟨b, o, none⟩) l w' ∧ Holds w' (w7.heap.size) 26 [.int .u8 (t0.toNat : Int), .int .u8 (t1.toNat : Int), .int .u8 (s2.toNat : Int), .int .u8 (t3.toNat : Int), .int .u8 (t4.toNat : Int), .int .u8 (t5.toNat : Int), .int .u8 (t6.toNat : Int), .int .u8 (t7.toNat : Int)]) (fun _ => True) (by kernel_rfl) (HQ.out) trivial ?_
    show Go_ _ _ _ _ _ _ _ _ _ _ (World.drew _)
    refine Go_.take (i := 0) (oi := ⟨some 99, Op.load 26 (Operand.tmp 16), 26, _, _, none⟩) (v := ?_) rfl (by kernel_rfl) (by kernel_rfl) (by kernel_rfl) rfl (fun _ _ _ h => h) (Or.inl ⟨by rfl, ?_⟩) ?_
    rotate_left; · intro w0 hS; obtain ⟨⟨hH, hZ0, hS4, hBB, hW⟩, hT8⟩ : SxS w k [.int .i64 (y : Int), .int .i64 (P : Int), .bool ((y : Int) == 3), .slice none 0 0] (some ⟨b, o, none⟩) l w0 ∧ Holds w0 (w7.heap.size) 26 [.int .u8 (t0.toNat : Int), .int .u8 (t1.toNat : Int), .int .u8 (s2.toNat : Int), .int .u8 (t3.toNat : Int), .int .u8 (t4.toNat : Int), .int .u8 (t5.toNat : Int), .int .u8 (t6.toNat : Int), .int .u8 (t7.toNat : Int)] := hS; have h8 := hH.eight; have h4 := hS4.four; have ht8 := hT8.eight; have hu8 := bts_8 (i := t2 + n) hBB (by omega) hU2; go_simp; try with_reducible rfl
    try simp only [Act.put, List.setIfInBounds_toArray, List.set_cons_zero, List.set_cons_succ]
    refine Go_.take (i := 1) (oi := ⟨some 100, Op.move (Operand.tmp 1), 24, _, _, none⟩) (v := ?_) rfl (by kernel_rfl) (by kernel_rfl) (by kernel_rfl) rfl (fun _ _ _ h => h) (Or.inl ⟨by rfl, ?_⟩) ?_
    rotate_left; · intro w0 _; go_simp; try with_reducible rfl
    try simp only [Act.put, List.setIfInBounds_toArray, List.set_cons_zero, List.set_cons_succ]
    refine Go_.take (i := 2) (oi := ⟨some 101, Op.move (Operand.tmp 15), 3, _, _, none⟩) (v := ?_) rfl (by kernel_rfl) (by kernel_rfl) (by kernel_rfl) rfl (fun _ _ _ h => h) (Or.inl ⟨by rfl, ?_⟩) ?_
    rotate_left; · intro w0 _; go_simp; try with_reducible rfl
    try simp only [Act.put, List.setIfInBounds_toArray, List.set_cons_zero, List.set_cons_succ]
    refine Go_.take (i := 3) (oi := ⟨some 102, Op.move (Operand.tmp 15), 3, _, _, none⟩) (v := ?_) rfl (by kernel_rfl) (by kernel_rfl) (by kernel_rfl) rfl (fun _ _ _ h => h) (Or.inl ⟨by rfl, ?_⟩) ?_
    rotate_left; · intro w0 _; go_simp; try with_reducible rfl
    try simp only [Act.put, List.setIfInBounds_toArray, List.set_cons_zero, List.set_cons_succ]
    refine Go_.take (i := 4) (oi := ⟨some 103, Op.binOp BinOp.add 3 (Operand.tmp 102) (Operand.const (Value.int IntKind.i64 8)) 3, 3, _, _, none⟩) (v := ?_) rfl (by kernel_rfl) (by kernel_rfl) (by kernel_rfl) rfl (fun _ _ _ h => h) (Or.inl ⟨by rfl, ?_⟩) ?_
    rotate_left; · intro w0 _; go_simp; try with_reducible rfl
    try simp only [Act.put, List.setIfInBounds_toArray, List.set_cons_zero, List.set_cons_succ]
    refine Go_.take (i := 5) (oi := ⟨some 104, Op.slice 24 (Operand.tmp 100) (some (Operand.tmp 101)) (some (Operand.tmp 103)) none, 24, _, _, none⟩) (v := ?_) rfl (by kernel_rfl) (by kernel_rfl) (by kernel_rfl) rfl (fun _ _ _ h => h) (Or.inl ⟨by rfl, ?_⟩) ?_
    rotate_left; · intro w0 _; go_simp; try with_reducible rfl
    try simp only [Act.put, List.setIfInBounds_toArray, List.set_cons_zero, List.set_cons_succ]
    refine Go_.take (i := 6) (oi := ⟨some 105, Op.sliceToArrayPointer 26 (Operand.tmp 104), 0, _, _, none⟩) (v := ?_) rfl (by kernel_rfl) (by kernel_rfl) (by kernel_rfl) rfl (fun _ _ _ h => h) (Or.inl ⟨by rfl, ?_⟩) ?_
    rotate_left; · intro w0 _; go_simp; try with_reducible rfl
    try simp only [Act.put, List.setIfInBounds_toArray, List.set_cons_zero, List.set_cons_succ]
    refine Go_.take (i := 7) (oi := ⟨some 106, Op.load 26 (Operand.tmp 105), 26, _, _, none⟩) (v := ?_) rfl (by kernel_rfl) (by kernel_rfl) (by kernel_rfl) rfl (fun _ _ _ h => h) (Or.inl ⟨by rfl, ?_⟩) ?_
    rotate_left; · intro w0 hS; obtain ⟨⟨hH, hZ0, hS4, hBB, hW⟩, hT8⟩ : SxS w k [.int .i64 (y : Int), .int .i64 (P : Int), .bool ((y : Int) == 3), .slice none 0 0] (some ⟨b, o, none⟩) l w0 ∧ Holds w0 (w7.heap.size) 26 [.int .u8 (t0.toNat : Int), .int .u8 (t1.toNat : Int), .int .u8 (s2.toNat : Int), .int .u8 (t3.toNat : Int), .int .u8 (t4.toNat : Int), .int .u8 (t5.toNat : Int), .int .u8 (t6.toNat : Int), .int .u8 (t7.toNat : Int)] := hS; have h8 := hH.eight; have h4 := hS4.four; have ht8 := hT8.eight; have hu8 := bts_8 (i := t2 + n) hBB (by omega) hU2; go_simp; try with_reducible rfl
    try simp only [Act.put, List.setIfInBounds_toArray, List.set_cons_zero, List.set_cons_succ]
    refine Go_.step (i := 8) (o := ⟨some 107, Op.call { callee := Callee.value (Operand.func 29), args := #[Operand.tmp 99, Operand.tmp 106], argTypes := #[26, 26] }, 4, _, _, none⟩) (by kernel_rfl) rfl (fun K hT hK => ?_)
    replace hT := hT.1
    rw [if_pos (by rfl)]
    go_simp
    refine (sx_same _ _ _ _ _ _ _ _ _ _ _ _ _ _ _ _ _ _ hTT hUU true hd2 _).mono ?_
    rintro e w9 ⟨rfl, hb9⟩
    refine hK.out _ _ (Till.of ⟨SxS.keep hT.1 hb9, hT.2.below hb9 hT.2.lt⟩) ?_
    clear hT hK K
    refine Go_.take (i := 9) (oi := ⟨some 108, Op.unOp UnOp.not 4 (Operand.tmp 107), 4, _, _, none⟩) (v := ?_) rfl (by kernel_rfl) (by kernel_rfl) (by kernel_rfl) rfl (fun _ _ _ h => h) (Or.inl ⟨by rfl, ?_⟩) ?_
    rotate_left; · intro w0 _; go_simp; try with_reducible rfl
    try simp only [Act.put, List.setIfInBounds_toArray, List.set_cons_zero, List.set_cons_succ]
    refine Go_.doneA (by kernel_rfl) (fun hA2 => ?_)
    have HP := Lib.hid hA2.1
    have hzf := hA2.1.zh.fourFree
    have hz4 := hA2.1.zh.four
    have hs4 := hA2.1.sh.four
    have hbW := hA2.1.wh
    have hp1 := hA2.1.sh.lt
    clear hA2
    go_wp2_with fail
    have hzs := (put4v (v0 := .int .i64 0) (v1 := .int .i64 0) (v2 := .bool false) (v3 := .slice none 0 0) HP.out.zh).four
    exact bodyPost_ret (v := .tuple #[zseg, .int .i64 at_, .int .i64 2]) (by simp [results, Try.results59, go_sem, zseg, hzs]) rfl ⟨rfl, below4v hbW (by omega)⟩
  · replace hT := hT.1
    rw [if_pos (by rfl)]
    refine wp_al26 rfl ?_
    intro w8 h8z hb8
    have hl8 := hT.sh.lt
    have hlb := hbl hT
    first | (change Holds w8 wq.heap.size 26 _ at h8z; change _ < wq.heap.size at hl8; change ∀ b9 o9, _ = _ → b9 ≠ wq.heap.size at hlb) | skip
    refine hK.out _ _ (Till.of (SxS.keep hT hb8)) ?_
    clear hT hK K
    refine Go_.step (i := 7) (o := ⟨some 98, Op.call { callee := Callee.value (Operand.func 25), args := #[Operand.tmp 91, Operand.tmp 93, Operand.tmp 97], argTypes := #[28, 3, 24] }, 26, _, _, none⟩) (by kernel_rfl) rfl (fun K hT hK => ?_)
    replace hT := hT.1
    rw [if_pos (by rfl)]
    go_simp
    refine (sx_of k P _ T _ (c - at_) hTl _ _ _ _ _ _ _ _ hTT (by omega) _ (hT2.out ▸ (hT.bh.part (by omega) at_ (t2 + n - at_) (by omega)))).mono ?_
    rintro e w7 ⟨rfl, hb7⟩
    refine hK.out _ _ (Till.of (SxS.keep hT hb7)) ?_
    clear hT hK K
    refine Go_.step (i := 9) (o := ⟨none, Op.store 26 (Operand.tmp 16) (Operand.tmp 98), 0, _, _, none⟩) (by kernel_rfl) rfl (fun K hT hK => ?_)
    replace hT := hT.1
    rw [if_pos (by rfl)]
    refine with_holds (t := 26) (by first | exact h8z | exact h8z.below hb7 h8z.lt) (fun hh => ?_)
    have z8 := hh.eight
    have zf := hh.eightFree
    have hS8 := set8v (v0 := .int .u8 (t0.toNat : Int)) (v1 := .int .u8 (t1.toNat : Int)) (v2 := .int .u8 (s2.toNat : Int)) (v3 := .int .u8 (t3.toNat : Int)) (v4 := .int .u8 (t4.toNat : Int)) (v5 := .int .u8 (t5.toNat : Int)) (v6 := .int .u8 (t6.toNat : Int)) (v7 := .int .u8 (t7.toNat : Int)) hh
    clear hh
    go_simp
    refine hK.out _ _ (Till.of (SxS.set hT hl8 hlb)) ?_
    clear hT hK K
    refine Go_.doneA (by kernel_rfl) (fun hA => ?_)
    clear hlb h8z hb8 hb7 z8 zf
    refine two_worlds (A := fun w' => SxS w k [.int .i64 (y : Int), .int .i64 (P : Int), .bool ((y : Int) == 3), .slice none 0 0] (some ⟨b, o, none⟩) l w') (B := fun w' => Holds w' (wq.heap.size) 26 [.int .u8 (t0.toNat : Int), .int .u8 (t1.toNat : Int), .int .u8 (s2.toNat : Int), .int .u8 (t3.toNat : Int), .int .u8 (t4.toNat : Int), .int .u8 (t5.toNat : Int), .int .u8 (t6.toNat : Int), .int .u8 (t7.toNat : Int)]) hA hS8 (fun wx hA hS9 => ?_)
    have HQ := Lib.hid (And.intro (SxS.keep hA (Below.refl _ _).drew) (hS9.drew))
    clear hA hS8 hS9
    go_wp2_with fail
    have hm1 : IntKind.i64.wrap ((t2 : Int) + (n : Int) + 8) = (t2 : Int) + (n : Int) + 8 := by simp [IntKind.wrap, IntKind.bits, IntKind.signed]; omega
    have hm2 : 0 ≤ (t2 : Int) + (n : Int) + 8 ∧ (t2 : Int) + (n : Int) + 8 ≤ (c : Int) := by omega
    have hm3 : ((t2 : Int) + (n : Int) + 8).toNat = t2 + n + 8 := by omega
    have hm4 : ¬ c = t2 + n := by omega
    have hm5 : (t2 : Int) + (n : Int) ≤ (t2 : Int) + (n : Int) + 8 := by omega
    have hm6 : t2 + n + 8 - (t2 + n) = 8 := by omega
    have harr : ∀ c9 w9, (Instr.arrayAt 26 (.slice (some ⟨b, o + (t2 + n), none⟩) 8 c9)).run Try.prog w9 = .ok (.pointer (some ⟨b, o + (t2 + n), none⟩)) w9 := fun c9 w9 => run_arrayAt (P := Try.prog) w9 26 5 8 _ 8 c9 Try.underlying26 (Nat.le_refl _)
    refine wp_region_till 10 (fun w' => SxS w k [.int .i64 (y : Int), .int .i64 (P : Int), .bool ((y : Int) == 3), .slice none 0 0] (some ⟨b, o, none⟩) l w' ∧ Holds w' (wq.heap.size) 26 [.int .u8 (t0.toNat : Int), .int .u8 (t1.toNat : Int), .int .u8 (s2.toNat : Int), .int .u8 (t3.toNat : Int), .int .u8 (t4.toNat : Int), .int .u8 (t5.toNat : Int), .int .u8 (t6.toNat : Int), .int .u8 (t7.toNat : Int)]) (fun _ => True) (by kernel_rfl) (HQ.out) trivial ?_
    show Go_ _ _ _ _ _ _ _ _ _ _ (World.drew _)
    refine Go_.take (i := 0) (oi := ⟨some 99, Op.load 26 (Operand.tmp 16), 26, _, _, none⟩) (v := ?_) rfl (by kernel_rfl) (by kernel_rfl) (by kernel_rfl) rfl (fun _ _ _ h => h) (Or.inl ⟨by rfl, ?_⟩) ?_
    rotate_left; · intro w0 hS; obtain ⟨⟨hH, hZ0, hS4, hBB, hW⟩, hT8⟩ : SxS w k [.int .i64 (y : Int), .int .i64 (P : Int), .bool ((y : Int) == 3), .slice none 0 0] (some ⟨b, o, none⟩) l w0 ∧ Holds w0 (wq.heap.size) 26 [.int .u8 (t0.toNat : Int), .int .u8 (t1.toNat : Int), .int .u8 (s2.toNat : Int), .int .u8 (t3.toNat : Int), .int .u8 (t4.toNat : Int), .int .u8 (t5.toNat : Int), .int .u8 (t6.toNat : Int), .int .u8 (t7.toNat : Int)] := hS; have h8 := hH.eight; have h4 := hS4.four; have ht8 := hT8.eight; have hu8 := bts_8 (i := t2 + n) hBB (by omega) hU2; go_simp; try with_reducible rfl
    try simp only [Act.put, List.setIfInBounds_toArray, List.set_cons_zero, List.set_cons_succ]
    refine Go_.take (i := 1) (oi := ⟨some 100, Op.move (Operand.tmp 1), 24, _, _, none⟩) (v := ?_) rfl (by kernel_rfl) (by kernel_rfl) (by kernel_rfl) rfl (fun _ _ _ h => h) (Or.inl ⟨by rfl, ?_⟩) ?_
    rotate_left; · intro w0 _; go_simp; try with_reducible rfl
    try simp only [Act.put, List.setIfInBounds_toArray, List.set_cons_zero, List.set_cons_succ]
    refine Go_.take (i := 2) (oi := ⟨some 101, Op.move (Operand.tmp 15), 3, _, _, none⟩) (v := ?_) rfl (by kernel_rfl) (by kernel_rfl) (by kernel_rfl) rfl (fun _ _ _ h => h) (Or.inl ⟨by rfl, ?_⟩) ?_
    rotate_left; · intro w0 _; go_simp; try with_reducible rfl
    try simp only [Act.put, List.setIfInBounds_toArray, List.set_cons_zero, List.set_cons_succ]
    refine Go_.take (i := 3) (oi := ⟨some 102, Op.move (Operand.tmp 15), 3, _, _, none⟩) (v := ?_) rfl (by kernel_rfl) (by kernel_rfl) (by kernel_rfl) rfl (fun _ _ _ h => h) (Or.inl ⟨by rfl, ?_⟩) ?_
    rotate_left; · intro w0 _; go_simp; try with_reducible rfl
    try simp only [Act.put, List.setIfInBounds_toArray, List.set_cons_zero, List.set_cons_succ]
    refine Go_.take (i := 4) (oi := ⟨some 103, Op.binOp BinOp.add 3 (Operand.tmp 102) (Operand.const (Value.int IntKind.i64 8)) 3, 3, _, _, none⟩) (v := ?_) rfl (by kernel_rfl) (by kernel_rfl) (by kernel_rfl) rfl (fun _ _ _ h => h) (Or.inl ⟨by rfl, ?_⟩) ?_
    rotate_left; · intro w0 _; go_simp; try with_reducible rfl
    try simp only [Act.put, List.setIfInBounds_toArray, List.set_cons_zero, List.set_cons_succ]
    refine Go_.take (i := 5) (oi := ⟨some 104, Op.slice 24 (Operand.tmp 100) (some (Operand.tmp 101)) (some (Operand.tmp 103)) none, 24, _, _, none⟩) (v := ?_) rfl (by kernel_rfl) (by kernel_rfl) (by kernel_rfl) rfl (fun _ _ _ h => h) (Or.inl ⟨by rfl, ?_⟩) ?_
    rotate_left; · intro w0 _; go_simp; try with_reducible rfl
    try simp only [Act.put, List.setIfInBounds_toArray, List.set_cons_zero, List.set_cons_succ]
    refine Go_.take (i := 6) (oi := ⟨some 105, Op.sliceToArrayPointer 26 (Operand.tmp 104), 0, _, _, none⟩) (v := ?_) rfl (by kernel_rfl) (by kernel_rfl) (by kernel_rfl) rfl (fun _ _ _ h => h) (Or.inl ⟨by rfl, ?_⟩) ?_
    rotate_left; · intro w0 _; go_simp; try with_reducible rfl
    try simp only [Act.put, List.setIfInBounds_toArray, List.set_cons_zero, List.set_cons_succ]
    refine Go_.take (i := 7) (oi := ⟨some 106, Op.load 26 (Operand.tmp 105), 26, _, _, none⟩) (v := ?_) rfl (by kernel_rfl) (by kernel_rfl) (by kernel_rfl) rfl (fun _ _ _ h => h) (Or.inl ⟨by rfl, ?_⟩) ?_
    rotate_left; · intro w0 hS; obtain ⟨⟨hH, hZ0, hS4, hBB, hW⟩, hT8⟩ : SxS w k [.int .i64 (y : Int), .int .i64 (P : Int), .bool ((y : Int) == 3), .slice none 0 0] (some ⟨b, o, none⟩) l w0 ∧ Holds w0 (wq.heap.size) 26 [.int .u8 (t0.toNat : Int), .int .u8 (t1.toNat : Int), .int .u8 (s2.toNat : Int), .int .u8 (t3.toNat : Int), .int .u8 (t4.toNat : Int), .int .u8 (t5.toNat : Int), .int .u8 (t6.toNat : Int), .int .u8 (t7.toNat : Int)] := hS; have h8 := hH.eight; have h4 := hS4.four; have ht8 := hT8.eight; have hu8 := bts_8 (i := t2 + n) hBB (by omega) hU2; go_simp; try with_reducible rfl
    try simp only [Act.put, List.setIfInBounds_toArray, List.set_cons_zero, List.set_cons_succ]
    refine Go_.step (i := 8) (o := ⟨some 107, Op.call { callee := Callee.value (Operand.func 29), args := #[Operand.tmp 99, Operand.tmp 106], argTypes := #[26, 26] }, 4, _, _, none⟩) (by kernel_rfl) rfl (fun K hT hK => ?_)
    replace hT := hT.1
    rw [if_pos (by rfl)]
    go_simp
    refine (sx_same _ _ _ _ _ _ _ _ _ _ _ _ _ _ _ _ _ _ hTT hUU true hd2 _).mono ?_
    rintro e w9 ⟨rfl, hb9⟩
    refine hK.out _ _ (Till.of ⟨SxS.keep hT.1 hb9, hT.2.below hb9 hT.2.lt⟩) ?_
    clear hT hK K
    refine Go_.take (i := 9) (oi := ⟨some 108, Op.unOp UnOp.not 4 (Operand.tmp 107), 4, _, _, none⟩) (v := ?_) rfl (by kernel_rfl) (by kernel_rfl) (by kernel_rfl) rfl (fun _ _ _ h => h) (Or.inl ⟨by rfl, ?_⟩) ?_
    rotate_left; · intro w0 _; go_simp; try with_reducible rfl
    try simp only [Act.put, List.setIfInBounds_toArray, List.set_cons_zero, List.set_cons_succ]
    refine Go_.doneA (by kernel_rfl) (fun hA2 => ?_)
    have HP := Lib.hid hA2.1
    have hzf := hA2.1.zh.fourFree
    have hz4 := hA2.1.zh.four
    have hs4 := hA2.1.sh.four
    have hbW := hA2.1.wh
    have hp1 := hA2.1.sh.lt
    clear hA2
    go_wp2_with fail
    have hzs := (put4v (v0 := .int .i64 0) (v1 := .int .i64 0) (v2 := .bool false) (v3 := .slice none 0 0) HP.out.zh).four
    exact bodyPost_ret (v := .tuple #[zseg, .int .i64 at_, .int .i64 2]) (by simp [results, Try.results59, go_sem, zseg, hzs]) rfl ⟨rfl, below4v hbW (by omega)⟩
end Go.Proofs.Ytcdklmicbbcknaa

namespace Go.Proofs.Ytcdklmicbbcknaa
open Go Go.RowKit
set_option maxRecDepth 20000 in
set_option maxHeartbeats 16000000 in
theorem sget_7 (k : K8) (b o : Nat) (l : List UInt8) (c at_ : Nat) (w : World) (hl : l.length ≤ 100000) (hlc : l.length ≤ c) (hB : Bts w (some ⟨b, o, none⟩) l) (h : at_ < l.length) (y : Nat) (hy : Hid ((l.getD at_ 0).toNat = y)) (hy1 : 1 ≤ y) (hy3 : y ≤ 3) (P t : Nat) (hN : Hid (numL l (at_ + 1) 1048576 = (P, t, 0))) (ht : t ≤ l.length) (hat : at_ < t)
    (n t2 : Nat) (hN2 : Hid (numL l t 12100 = (n, t2, 0))) (ht2 : t2 ≤ l.length) (htt : t < t2) (hlong : n + 8 ≤ l.length - t2) (hd : Hid (decide (tagL k P ((l.drop at_).take (t2 + n - at_)) = (l.drop (t2 + n)).take 8) = true)) :
    Calls Try.prog 59 #[.agg k.vals.toArray, .slice (some ⟨b, o, none⟩) l.length c, .int .i64 at_, .int .i64 (P : Int)] w fun e w' => ∃ A' c' X, Hid (X = xorL (streamL k P n) ((l.drop t2).take n)) ∧ e = .returned (.tuple #[.agg #[.int .i64 (y : Int), .int .i64 (P : Int), .bool ((y : Int) == 3), .slice A' X.length c'], .int .i64 ((t2 + n + 8 : Nat) : Int), .int .i64 0]) ∧ Own w' w.heap.size A' c' X ∧ Below w.heap.size w w' := by
  obtain ⟨T, hT⟩ : ∃ T, Hid (T = (l.drop at_).take (t2 + n - at_)) := ⟨_, rfl⟩
  obtain ⟨U, hU⟩ : ∃ U, Hid (U = (l.drop (t2 + n)).take 8) := ⟨_, rfl⟩
  have hb0 : Below w.heap.size w ((w.alloc (.cells k.vals.toArray 28)).alloc (.cells #[.int .i64 0, .int .i64 0, .bool false, .slice none 0 0] 81)) := ((Below.refl _ _).alloc (Nat.le_refl _) _).alloc (by simp) _
  have hb1 := hb0.alloc (by simp; omega) (.cells #[.int .i64 y, .int .i64 0, .bool ((y : Int) == 3), .slice none 0 0] 81)
  have hb2 := hb0.alloc (by simp; omega) (.cells #[.int .i64 (y : Int), .int .i64 (P : Int), .bool ((y : Int) == 3), .slice none 0 0] 81)
  have hk2 := ((Holds.newAt w 28 [.int .u32 (W k.k0), .int .u32 (W k.k1), .int .u32 (W k.k2), .int .u32 (W k.k3), .int .u32 (W k.k4), .int .u32 (W k.k5), .int .u32 (W k.k6), .int .u32 (W k.k7)] (n := w.heap.size) rfl).alloc (.cells #[.int .i64 0, .int .i64 0, .bool false, .slice none 0 0] 81)).alloc (.cells #[.int .i64 (y : Int), .int .i64 (P : Int), .bool ((y : Int) == 3), .slice none 0 0] 81)
  have hz2 := (Holds.newAt (w.alloc (.cells #[.int .u32 (W k.k0), .int .u32 (W k.k1), .int .u32 (W k.k2), .int .u32 (W k.k3), .int .u32 (W k.k4), .int .u32 (W k.k5), .int .u32 (W k.k6), .int .u32 (W k.k7)] 28)) 81 [.int .i64 0, .int .i64 0, .bool false, .slice none 0 0] (n := w.heap.size + 1) (by simp)).alloc (.cells #[.int .i64 (y : Int), .int .i64 (P : Int), .bool ((y : Int) == 3), .slice none 0 0] 81)
  have hs2 := Holds.newAt ((w.alloc (.cells #[.int .u32 (W k.k0), .int .u32 (W k.k1), .int .u32 (W k.k2), .int .u32 (W k.k3), .int .u32 (W k.k4), .int .u32 (W k.k5), .int .u32 (W k.k6), .int .u32 (W k.k7)] 28)).alloc (.cells #[.int .i64 0, .int .i64 0, .bool false, .slice none 0 0] 81)) 81 [.int .i64 (y : Int), .int .i64 (P : Int), .bool ((y : Int) == 3), .slice none 0 0] (n := w.heap.size + 1 + 1) (by simp)
  unfold K8.vals at *
  have HB1 := Lib.hid (hB.below hb1)
  have HS2 : Hid (SxS w k [.int .i64 (y : Int), .int .i64 (P : Int), .bool ((y : Int) == 3), .slice none 0 0] (some ⟨b, o, none⟩) l _) := Lib.hid ⟨hk2, hz2, hs2, hB.below hb2, hb2⟩
  have hbw : Hid (b < w.heap.size) := by
    obtain ⟨b9, o9, e9, hlt, _⟩ := hB (by omega)
    injection e9 with e9
    injection e9 with e3 e4
    subst e3
    exact Lib.hid hlt
  obtain ⟨b', o', e', hbs, hcs⟩ := (hB.below hb0) (by omega)
  injection e' with e'
  injection e' with e1 e2
  subst e1 e2
  have hc := hcs at_ h
  rw [hy.out] at hc
  clear hcs hB hk2 hz2 hs2 hb1 hb2
  go_enter Try.func59, Try.ntmps59
  go_wp2_with fail
  refine (number_z _ l c (at_ + 1) 1048576 _ _ _ (by omega) (by omega) (by omega) (by omega) HB1.out (by omega) P t 0 hN).mono ?_
  rintro e w1 ⟨z, rfl, hz, rfl⟩
  obtain ⟨rfl, hPm⟩ := hz rfl
  clear hz
  go_wp2_with fail
  refine (number_z _ l c t 12100 _ _ _ rfl rfl ht (by omega) HS2.out.bh (by omega) _ _ _ hN2).mono ?_
  rintro e w1 ⟨z2, rfl, hz2, rfl⟩
  obtain ⟨rfl, hnm⟩ := hz2 rfl
  clear hz2 hc HB1 hb0
  go_wp2_with fail
  have hn1 : 0 ≤ (t2 : Int) + (n : Int) ∧ (t2 : Int) + (n : Int) ≤ (c : Int) := by omega
  have hn2 : ((t2 : Int) + (n : Int)).toNat = t2 + n := by omega
  have hn3 : at_ ≤ t2 + n := by omega
  have hn4 : ¬ c = at_ := by omega
  have hTl : T.length = t2 + n - at_ := by rw [hT.out, List.length_take, List.length_drop]; omega
  have hTl9 : t2 + n - at_ ≤ 100000 := by omega
  obtain ⟨t0, t1, s2, t3, t4, t5, t6, t7, hTT⟩ : ∃ t0 t1 s2 t3 t4 t5 t6 t7, Hid (tagL k P T = [t0, t1, s2, t3, t4, t5, t6, t7]) := ⟨_, _, _, _, _, _, _, _, rfl⟩
  obtain ⟨u0, u1, u2, u3, u4, u5, u6, u7, hUU⟩ := eight_of U (by rw [hU.out, List.length_take, List.length_drop]; omega)
  have hU2 : Hid ((l.drop (t2 + n)).take 8 = [u0, u1, u2, u3, u4, u5, u6, u7]) := by rw [← hU.out]; exact hUU
  have hd2 : Hid (decide (tagL k P T = U) = true) := by rw [hT.out, hU.out]; exact hd
  have hbl : ∀ {wc : World}, SxS w k [.int .i64 (y : Int), .int .i64 (P : Int), .bool ((y : Int) == 3), .slice none 0 0] (some ⟨b, o, none⟩) l wc → ∀ b' o', some (⟨b, o, none⟩ : Addr) = some ⟨b', o', none⟩ → b' ≠ wc.heap.size := fun {wc} hq b' o' e => by
    injection e with e
    injection e with e1 e2
    obtain ⟨b9, o9, e9, hlt, _⟩ := hq.bh (by omega)
    injection e9 with e9
    injection e9 with e3 e4
    omega
  have hT2 := hT
  clear hT hd
  generalize ((w.alloc (.cells #[.int .u32 (W k.k0), .int .u32 (W k.k1), .int .u32 (W k.k2), .int .u32 (W k.k3), .int .u32 (W k.k4), .int .u32 (W k.k5), .int .u32 (W k.k6), .int .u32 (W k.k7)] 28)).alloc (.cells #[.int .i64 0, .int .i64 0, .bool false, .slice none 0 0] 81)).alloc (.cells #[.int .i64 (y : Int), .int .i64 (P : Int), .bool ((y : Int) == 3), .slice none 0 0] 81) = wq at HS2 ⊢
  refine wp_region_till 10 (fun w' => SxS w k [.int .i64 (y : Int), .int .i64 (P : Int), .bool ((y : Int) == 3), .slice none 0 0] (some ⟨b, o, none⟩) l w') (fun _ => True) (by kernel_rfl) ((SxS.keep HS2.out (Below.refl _ _).drew)) trivial ?_
  show Go_ _ _ _ _ _ _ _ _ _ _ (World.drew _)
  refine Go_.take (i := 0) (oi := ⟨some 91, Op.load 28 (Operand.tmp 4), 28, _, _, none⟩) (v := ?_) rfl (by kernel_rfl) (by kernel_rfl) (by kernel_rfl) rfl (fun _ _ _ h => h) (Or.inl ⟨by rfl, ?_⟩) ?_
  rotate_left; · intro w0 hS; obtain ⟨hH, hZ0, hS4, hBB, hW⟩ : SxS w k [.int .i64 (y : Int), .int .i64 (P : Int), .bool ((y : Int) == 3), .slice none 0 0] (some ⟨b, o, none⟩) l w0 := hS; have h8 := hH.eight; have h4 := hS4.four; go_simp; try with_reducible rfl
  try simp only [Act.put, List.setIfInBounds_toArray, List.set_cons_zero, List.set_cons_succ]
  refine Go_.take (i := 1) (oi := ⟨some 92, Op.fieldAddr 81 (Operand.tmp 11) 1, 0, _, _, none⟩) (v := ?_) rfl (by kernel_rfl) (by kernel_rfl) (by kernel_rfl) rfl (fun _ _ _ h => h) (Or.inl ⟨by rfl, ?_⟩) ?_
  rotate_left; · intro w0 _; go_simp; try with_reducible rfl
  try simp only [Act.put, List.setIfInBounds_toArray, List.set_cons_zero, List.set_cons_succ]
  refine Go_.take (i := 2) (oi := ⟨some 93, Op.load 3 (Operand.tmp 92), 3, _, _, none⟩) (v := ?_) rfl (by kernel_rfl) (by kernel_rfl) (by kernel_rfl) rfl (fun _ _ _ h => h) (Or.inl ⟨by rfl, ?_⟩) ?_
  rotate_left; · intro w0 hS; obtain ⟨hH, hZ0, hS4, hBB, hW⟩ : SxS w k [.int .i64 (y : Int), .int .i64 (P : Int), .bool ((y : Int) == 3), .slice none 0 0] (some ⟨b, o, none⟩) l w0 := hS; have h8 := hH.eight; have h4 := hS4.four; go_simp; try with_reducible rfl
  try simp only [Act.put, List.setIfInBounds_toArray, List.set_cons_zero, List.set_cons_succ]
  refine Go_.take (i := 3) (oi := ⟨some 94, Op.move (Operand.tmp 1), 24, _, _, none⟩) (v := ?_) rfl (by kernel_rfl) (by kernel_rfl) (by kernel_rfl) rfl (fun _ _ _ h => h) (Or.inl ⟨by rfl, ?_⟩) ?_
  rotate_left; · intro w0 _; go_simp; try with_reducible rfl
  try simp only [Act.put, List.setIfInBounds_toArray, List.set_cons_zero, List.set_cons_succ]
  refine Go_.take (i := 4) (oi := ⟨some 95, Op.move (Operand.tmp 2), 3, _, _, none⟩) (v := ?_) rfl (by kernel_rfl) (by kernel_rfl) (by kernel_rfl) rfl (fun _ _ _ h => h) (Or.inl ⟨by rfl, ?_⟩) ?_
  rotate_left; · intro w0 _; go_simp; try with_reducible rfl
  try simp only [Act.put, List.setIfInBounds_toArray, List.set_cons_zero, List.set_cons_succ]
  refine Go_.take (i := 5) (oi := ⟨some 96, Op.move (Operand.tmp 15), 3, _, _, none⟩) (v := ?_) rfl (by kernel_rfl) (by kernel_rfl) (by kernel_rfl) rfl (fun _ _ _ h => h) (Or.inl ⟨by rfl, ?_⟩) ?_
  rotate_left; · intro w0 _; go_simp; try with_reducible rfl
  try simp only [Act.put, List.setIfInBounds_toArray, List.set_cons_zero, List.set_cons_succ]
  refine Go_.take (i := 6) (oi := ⟨some 97, Op.slice 24 (Operand.tmp 94) (some (Operand.tmp 95)) (some (Operand.tmp 96)) none, 24, _, _, none⟩) (v := ?_) rfl (by kernel_rfl) (by kernel_rfl) (by kernel_rfl) rfl (fun _ _ _ h => h) (Or.inl ⟨by rfl, ?_⟩) ?_
  rotate_left; · intro w0 _; go_simp; try with_reducible rfl
  try simp only [Act.put, List.setIfInBounds_toArray, List.set_cons_zero, List.set_cons_succ]
  refine Go_.step2 (i := 7) (j := 8) (oi := ⟨some 98, Op.call { callee := Callee.value (Operand.func 25), args := #[Operand.tmp 91, Operand.tmp 93, Operand.tmp 97], argTypes := #[28, 3, 24] }, 26, _, _, none⟩) (oj := ⟨some 16, Op.alloc 26, 0, _, _, none⟩) (by kernel_rfl) rfl rfl (fun K hT hK => ?_) (fun K hT hK => ?_)
  · replace hT := hT.1
    rw [if_pos (by rfl)]
    go_simp
    refine (sx_of k P _ T _ (c - at_) hTl _ _ _ _ _ _ _ _ hTT (by omega) _ (hT2.out ▸ (hT.bh.part (by omega) at_ (t2 + n - at_) (by omega)))).mono ?_
    rintro e w7 ⟨rfl, hb7⟩
    refine hK.out _ _ (Till.of (SxS.keep hT hb7)) ?_
    clear hT hK K
    refine Go_.step (i := 8) (o := ⟨some 16, Op.alloc 26, 0, _, _, none⟩) (by kernel_rfl) rfl (fun K hT hK => ?_)
    replace hT := hT.1
    rw [if_pos (by rfl)]
    refine wp_al26 rfl ?_
    intro w8 h8z hb8
    have hl8 := hT.sh.lt
    have hlb := hbl hT
    first | (change Holds w8 wq.heap.size 26 _ at h8z; change _ < wq.heap.size at hl8; change ∀ b9 o9, _ = _ → b9 ≠ wq.heap.size at hlb) | skip
    refine hK.out _ _ (Till.of (SxS.keep hT hb8)) ?_
    clear hT hK K
    refine Go_.step (i := 9) (o := ⟨none, Op.store 26 (Operand.tmp 16) (Operand.tmp 98), 0, _, _, none⟩) (by kernel_rfl) rfl (fun K hT hK => ?_)
    replace hT := hT.1
    rw [if_pos (by rfl)]
    refine with_holds (t := 26) (by first | exact h8z | exact h8z.below hb7 h8z.lt) (fun hh => ?_)
    have z8 := hh.eight
    have zf := hh.eightFree
    have hS8 := set8v (v0 := .int .u8 (t0.toNat : Int)) (v1 := .int .u8 (t1.toNat : Int)) (v2 := .int .u8 (s2.toNat : Int)) (v3 := .int .u8 (t3.toNat : Int)) (v4 := .int .u8 (t4.toNat : Int)) (v5 := .int .u8 (t5.toNat : Int)) (v6 := .int .u8 (t6.toNat : Int)) (v7 := .int .u8 (t7.toNat : Int)) hh
    clear hh
    go_simp
    refine hK.out _ _ (Till.of (SxS.set hT hl8 hlb)) ?_
    clear hT hK K
    refine Go_.doneA (by kernel_rfl) (fun hA => ?_)
    clear hlb h8z hb8 hb7 z8 zf
    refine two_worlds (A := fun w' => SxS w k [.int .i64 (y : Int), .int .i64 (P : Int), .bool ((y : Int) == 3), .slice none 0 0] (some ⟨b, o, none⟩) l w') (B := fun w' => Holds w' (w7.heap.size) 26 [.int .u8 (t0.toNat : Int), .int .u8 (t1.toNat : Int), .int .u8 (s2.toNat : Int), .int .u8 (t3.toNat : Int), .int .u8 (t4.toNat : Int), .int .u8 (t5.toNat : Int), .int .u8 (t6.toNat : Int), .int .u8 (t7.toNat : Int)]) hA hS8 (fun wx hA hS9 => ?_)
    have HQ := Lib.hid (And.intro (SxS.keep hA (Below.refl _ _).drew) (hS9.drew))
    clear hA hS8 hS9
    go_wp2_with fail
    have hm1 : IntKind.i64.wrap ((t2 : Int) + (n : Int) + 8) = (t2 : Int) + (n : Int) + 8 := by simp [IntKind.wrap, IntKind.bits, IntKind.signed]; omega
    have hm2 : 0 ≤ (t2 : Int) + (n : Int) + 8 ∧ (t2 : Int) + (n : Int) + 8 ≤ (c : Int) := by omega
    have hm3 : ((t2 : Int) + (n : Int) + 8).toNat = t2 + n + 8 := by omega
    have hm4 : ¬ c = t2 + n := by omega
    have hm5 : (t2 : Int) + (n : Int) ≤ (t2 : Int) + (n : Int) + 8 := by omega
    have hm6 : t2 + n + 8 - (t2 + n) = 8 := by omega
    have harr : ∀ c9 w9, (Instr.arrayAt 26 (.slice (some ⟨b, o + (t2 + n), none⟩) 8 c9)).run Try.prog w9 = .ok (.pointer (some ⟨b, o + (t2 + n), none⟩)) w9 := fun c9 w9 => run_arrayAt (P := Try.prog) w9 26 5 8 _ 8 c9 Try.underlying26 (Nat.le_refl _)
    refine wp_region_till 10 (fun w' => SxS w k [.int .i64 (y : Int), .int .i64 (P : Int), .bool ((y : Int) == 3), .slice none 0 0] (some ⟨b, o, none⟩) l w' ∧ Holds w' (w7.heap.size) 26 [.int .u8 (t0.toNat : Int), .int .u8 (t1.toNat : Int), .int .u8 (s2.toNat : Int), .int .u8 (t3.toNat : Int), .int .u8 (t4.toNat : Int), .int .u8 (t5.toNat : Int), .int .u8 (t6.toNat : Int), .int .u8 (t7.toNat : Int)]) (fun _ => True) (by kernel_rfl) (HQ.out) trivial ?_
    show Go_ _ _ _ _ _ _ _ _ _ _ (World.drew _)
    refine Go_.take (i := 0) (oi := ⟨some 99, Op.load 26 (Operand.tmp 16), 26, _, _, none⟩) (v := ?_) rfl (by kernel_rfl) (by kernel_rfl) (by kernel_rfl) rfl (fun _ _ _ h => h) (Or.inl ⟨by rfl, ?_⟩) ?_
    rotate_left; · intro w0 hS; obtain ⟨⟨hH, hZ0, hS4, hBB, hW⟩, hT8⟩ : SxS w k [.int .i64 (y : Int), .int .i64 (P : Int), .bool ((y : Int) == 3), .slice none 0 0] (some ⟨b, o, none⟩) l w0 ∧ Holds w0 (w7.heap.size) 26 [.int .u8 (t0.toNat : Int), .int .u8 (t1.toNat : Int), .int .u8 (s2.toNat : Int), .int .u8 (t3.toNat : Int), .int .u8 (t4.toNat : Int), .int .u8 (t5.toNat : Int), .int .u8 (t6.toNat : Int), .int .u8 (t7.toNat : Int)] := hS; have h8 := hH.eight; have h4 := hS4.four; have ht8 := hT8.eight; have hu8 := bts_8 (i := t2 + n) hBB (by omega) hU2; go_simp; try with_reducible rfl
    try simp only [Act.put, List.setIfInBounds_toArray, List.set_cons_zero, List.set_cons_succ]
    refine Go_.take (i := 1) (oi := ⟨some 100, Op.move (Operand.tmp 1), 24, _, _, none⟩) (v := ?_) rfl (by kernel_rfl) (by kernel_rfl) (by kernel_rfl) rfl (fun _ _ _ h => h) (Or.inl ⟨by rfl, ?_⟩) ?_
    rotate_left; · intro w0 _; go_simp; try with_reducible rfl
    try simp only [Act.put, List.setIfInBounds_toArray, List.set_cons_zero, List.set_cons_succ]
    refine Go_.take (i := 2) (oi := ⟨some 101, Op.move (Operand.tmp 15), 3, _, _, none⟩) (v := ?_) rfl (by kernel_rfl) (by kernel_rfl) (by kernel_rfl) rfl (fun _ _ _ h => h) (Or.inl ⟨by rfl, ?_⟩) ?_
    rotate_left; · intro w0 _; go_simp; try with_reducible rfl
    try simp only [Act.put, List.setIfInBounds_toArray, List.set_cons_zero, List.set_cons_succ]
    refine Go_.take (i := 3) (oi := ⟨some 102, Op.move (Operand.tmp 15), 3, _, _, none⟩) (v := ?_) rfl (by kernel_rfl) (by kernel_rfl) (by kernel_rfl) rfl (fun _ _ _ h => h) (Or.inl ⟨by rfl, ?_⟩) ?_
    rotate_left; · intro w0 _; go_simp; try with_reducible rfl
    try simp only [Act.put, List.setIfInBounds_toArray, List.set_cons_zero, List.set_cons_succ]
    refine Go_.take (i := 4) (oi := ⟨some 103, Op.binOp BinOp.add 3 (Operand.tmp 102) (Operand.const (Value.int IntKind.i64 8)) 3, 3, _, _, none⟩) (v := ?_) rfl (by kernel_rfl) (by kernel_rfl) (by kernel_rfl) rfl (fun _ _ _ h => h) (Or.inl ⟨by rfl, ?_⟩) ?_
    rotate_left; · intro w0 _; go_simp; try with_reducible rfl
    try simp only [Act.put, List.setIfInBounds_toArray, List.set_cons_zero, List.set_cons_succ]
    refine Go_.take (i := 5) (oi := ⟨some 104, Op.slice 24 (Operand.tmp 100) (some (Operand.tmp 101)) (some (Operand.tmp 103)) none, 24, _, _, none⟩) (v := ?_) rfl (by kernel_rfl) (by kernel_rfl) (by kernel_rfl) rfl (fun _ _ _ h => h) (Or.inl ⟨by rfl, ?_⟩) ?_
    rotate_left; · intro w0 _; go_simp; try with_reducible rfl
    try simp only [Act.put, List.setIfInBounds_toArray, List.set_cons_zero, List.set_cons_succ]
    refine Go_.take (i := 6) (oi := ⟨some 105, Op.sliceToArrayPointer 26 (Operand.tmp 104), 0, _, _, none⟩) (v := ?_) rfl (by kernel_rfl) (by kernel_rfl) (by kernel_rfl) rfl (fun _ _ _ h => h) (Or.inl ⟨by rfl, ?_⟩) ?_
    rotate_left; · intro w0 _; go_simp; try with_reducible rfl
    try simp only [Act.put, List.setIfInBounds_toArray, List.set_cons_zero, List.set_cons_succ]
    refine Go_.take (i := 7) (oi := ⟨some 106, Op.load 26 (Operand.tmp 105), 26, _, _, none⟩) (v := ?_) rfl (by kernel_rfl) (by kernel_rfl) (by kernel_rfl) rfl (fun _ _ _ h => h) (Or.inl ⟨by rfl, ?_⟩) ?_
    rotate_left; · intro w0 hS; obtain ⟨⟨hH, hZ0, hS4, hBB, hW⟩, hT8⟩ : SxS w k [.int .i64 (y : Int), .int .i64 (P : Int), .bool ((y : Int) == 3), .slice none 0 0] (some ⟨b, o, none⟩) l w0 ∧ Holds w0 (w7.heap.size) 26 [.int .u8 (t0.toNat : Int), .int .u8 (t1.toNat : Int), .int .u8 (s2.toNat : Int), .int .u8 (t3.toNat : Int), .int .u8 (t4.toNat : Int), .int .u8 (t5.toNat : Int), .int .u8 (t6.toNat : Int), .int .u8 (t7.toNat : Int)] := hS; have h8 := hH.eight; have h4 := hS4.four; have ht8 := hT8.eight; have hu8 := bts_8 (i := t2 + n) hBB (by omega) hU2; go_simp; try with_reducible rfl
    try simp only [Act.put, List.setIfInBounds_toArray, List.set_cons_zero, List.set_cons_succ]
    refine Go_.step (i := 8) (o := ⟨some 107, Op.call { callee := Callee.value (Operand.func 29), args := #[Operand.tmp 99, Operand.tmp 106], argTypes := #[26, 26] }, 4, _, _, none⟩) (by kernel_rfl) rfl (fun K hT hK => ?_)
    replace hT := hT.1
    rw [if_pos (by rfl)]
    go_simp
    refine (sx_same _ _ _ _ _ _ _ _ _ _ _ _ _ _ _ _ _ _ hTT hUU true hd2 _).mono ?_
    rintro e w9 ⟨rfl, hb9⟩
    refine hK.out _ _ (Till.of ⟨SxS.keep hT.1 hb9, hT.2.below hb9 hT.2.lt⟩) ?_
    clear hT hK K
    refine Go_.take (i := 9) (oi := ⟨some 108, Op.unOp UnOp.not 4 (Operand.tmp 107), 4, _, _, none⟩) (v := ?_) rfl (by kernel_rfl) (by kernel_rfl) (by kernel_rfl) rfl (fun _ _ _ h => h) (Or.inl ⟨by rfl, ?_⟩) ?_
    rotate_left; · intro w0 _; go_simp; try with_reducible rfl
    try simp only [Act.put, List.setIfInBounds_toArray, List.set_cons_zero, List.set_cons_succ]
    refine Go_.doneA (by kernel_rfl) (fun hA2 => ?_)
    have HP := Lib.hid hA2.1
    have hzf := hA2.1.zh.fourFree
    have hz4 := hA2.1.zh.four
    have hs4 := hA2.1.sh.four
    have hbW := hA2.1.wh
    have hp1 := hA2.1.sh.lt
    clear hA2
    go_wp2_with fail
    obtain ⟨D, hD⟩ : ∃ D, Hid (D = (l.drop t2).take n) := ⟨_, rfl⟩
    have hDl : D.length = n := by rw [hD.out, List.length_take, List.length_drop]; omega
    obtain ⟨X, hX⟩ : ∃ X, Hid (X = xorL (streamL k P n) D) := ⟨_, rfl⟩
    have hX2 : Hid (X = xorL (streamL k P n) ((l.drop t2).take n)) := by rw [← hD.out]; exact hX
    have hbA : ∀ b9 o9, some (⟨b, o, none⟩ : Addr) = some ⟨b9, o9, none⟩ → b9 < w.heap.size := fun b9 o9 e9 => by injection e9 with e9; injection e9 with e3 e4; subst e3; exact hbw.out
    have hq3 : t2 ≤ t2 + n := by omega
    have hq4 : ¬ c = t2 := by omega
    have hq5 : t2 + n - t2 = n := by omega
    clear hzf hz4 hs4
    refine wp_region_till 10 (fun w' => ∃ v, SxS w k [.int .i64 (y : Int), .int .i64 (P : Int), .bool ((y : Int) == 3), v] (some ⟨b, o, none⟩) l w') (fun _ => True) (by kernel_rfl) (⟨_, SxS.keep HP.out (Below.refl _ _).drew⟩) trivial ?_
    show Go_ _ _ _ _ _ _ _ _ _ _ (World.drew _)
    refine Go_.take (i := 0) (oi := ⟨some 117, Op.load 28 (Operand.tmp 4), 28, _, _, none⟩) (v := ?_) rfl (by kernel_rfl) (by kernel_rfl) (by kernel_rfl) rfl (fun _ _ _ h => h) (Or.inl ⟨by rfl, ?_⟩) ?_
    rotate_left; · intro w0 hS; obtain ⟨v, hH, hZ0, hS4, hBB, hW⟩ : ∃ v, SxS w k [.int .i64 (y : Int), .int .i64 (P : Int), .bool ((y : Int) == 3), v] (some ⟨b, o, none⟩) l w0 := hS; have h8 := hH.eight; have h4 := hS4.four; go_simp; try with_reducible rfl
    try simp only [Act.put, List.setIfInBounds_toArray, List.set_cons_zero, List.set_cons_succ]
    refine Go_.take (i := 1) (oi := ⟨some 118, Op.fieldAddr 81 (Operand.tmp 11) 1, 0, _, _, none⟩) (v := ?_) rfl (by kernel_rfl) (by kernel_rfl) (by kernel_rfl) rfl (fun _ _ _ h => h) (Or.inl ⟨by rfl, ?_⟩) ?_
    rotate_left; · intro w0 _; go_simp; try with_reducible rfl
    try simp only [Act.put, List.setIfInBounds_toArray, List.set_cons_zero, List.set_cons_succ]
    refine Go_.take (i := 2) (oi := ⟨some 119, Op.load 3 (Operand.tmp 118), 3, _, _, none⟩) (v := ?_) rfl (by kernel_rfl) (by kernel_rfl) (by kernel_rfl) rfl (fun _ _ _ h => h) (Or.inl ⟨by rfl, ?_⟩) ?_
    rotate_left; · intro w0 hS; obtain ⟨v, hH, hZ0, hS4, hBB, hW⟩ : ∃ v, SxS w k [.int .i64 (y : Int), .int .i64 (P : Int), .bool ((y : Int) == 3), v] (some ⟨b, o, none⟩) l w0 := hS; have h8 := hH.eight; have h4 := hS4.four; go_simp; try with_reducible rfl
    try simp only [Act.put, List.setIfInBounds_toArray, List.set_cons_zero, List.set_cons_succ]
    refine Go_.take (i := 3) (oi := ⟨some 120, Op.move (Operand.tmp 1), 24, _, _, none⟩) (v := ?_) rfl (by kernel_rfl) (by kernel_rfl) (by kernel_rfl) rfl (fun _ _ _ h => h) (Or.inl ⟨by rfl, ?_⟩) ?_
    rotate_left; · intro w0 _; go_simp; try with_reducible rfl
    try simp only [Act.put, List.setIfInBounds_toArray, List.set_cons_zero, List.set_cons_succ]
    refine Go_.take (i := 4) (oi := ⟨some 121, Op.move (Operand.tmp 13), 3, _, _, none⟩) (v := ?_) rfl (by kernel_rfl) (by kernel_rfl) (by kernel_rfl) rfl (fun _ _ _ h => h) (Or.inl ⟨by rfl, ?_⟩) ?_
    rotate_left; · intro w0 _; go_simp; try with_reducible rfl
    try simp only [Act.put, List.setIfInBounds_toArray, List.set_cons_zero, List.set_cons_succ]
    refine Go_.take (i := 5) (oi := ⟨some 122, Op.move (Operand.tmp 15), 3, _, _, none⟩) (v := ?_) rfl (by kernel_rfl) (by kernel_rfl) (by kernel_rfl) rfl (fun _ _ _ h => h) (Or.inl ⟨by rfl, ?_⟩) ?_
    rotate_left; · intro w0 _; go_simp; try with_reducible rfl
    try simp only [Act.put, List.setIfInBounds_toArray, List.set_cons_zero, List.set_cons_succ]
    refine Go_.take (i := 6) (oi := ⟨some 123, Op.slice 24 (Operand.tmp 120) (some (Operand.tmp 121)) (some (Operand.tmp 122)) none, 24, _, _, none⟩) (v := ?_) rfl (by kernel_rfl) (by kernel_rfl) (by kernel_rfl) rfl (fun _ _ _ h => h) (Or.inl ⟨by rfl, ?_⟩) ?_
    rotate_left; · intro w0 _; go_simp; try with_reducible rfl
    try simp only [Act.put, List.setIfInBounds_toArray, List.set_cons_zero, List.set_cons_succ]
    refine Go_.step (i := 7) (o := ⟨some 124, Op.call { callee := Callee.value (Operand.func 48), args := #[Operand.tmp 117, Operand.tmp 119, Operand.tmp 123], argTypes := #[28, 3, 24] }, 24, _, _, none⟩) (by kernel_rfl) rfl (fun K hT hK => ?_)
    replace hT := hT.1
    rw [if_pos (by rfl)]
    obtain ⟨v7, hT⟩ := hT
    go_simp
    refine (sx_xor k P _ D n _ hDl (by omega) X hX _ (hD.out ▸ (hT.bh.part (by omega) t2 n (by omega)))).mono ?_
    rintro e w24 ⟨A24, c24, rfl, ho24, hb24⟩
    have hsz24 := hT.sh.lt
    refine hK.out _ _ (Till.of ⟨v7, SxS.keep hT hb24⟩) ?_
    clear hT hK K
    refine Go_.take (i := 8) (oi := ⟨some 125, Op.fieldAddr 81 (Operand.tmp 11) 3, 0, _, _, none⟩) (v := ?_) rfl (by kernel_rfl) (by kernel_rfl) (by kernel_rfl) rfl (fun _ _ _ h => h) (Or.inl ⟨by rfl, ?_⟩) ?_
    rotate_left; · intro w0 _; go_simp; try with_reducible rfl
    try simp only [Act.put, List.setIfInBounds_toArray, List.set_cons_zero, List.set_cons_succ]
    refine Go_.step (i := 9) (o := ⟨none, Op.store 24 (Operand.tmp 125) (Operand.tmp 124), 0, _, _, none⟩) (by kernel_rfl) rfl (fun K hT hK => ?_)
    replace hT := hT.1
    rw [if_pos (by rfl)]
    obtain ⟨v9, hT⟩ := hT
    have hf24 := hT.sh.fourFree
    have h424 := hT.sh.four
    have hP24 := SxS.put3 (v := .slice A24 X.length c24) hT hbA
    have hO24 := own_far (i := 3) (v := .slice A24 X.length c24) ho24 hsz24
    go_simp
    refine hK.out _ _ (Till.of ⟨_, hP24⟩) ?_
    clear hT hK K
    refine Go_.doneA (by kernel_rfl) (fun _ => ?_)
    refine two_worlds (A := fun w' => SxS w k [.int .i64 (y : Int), .int .i64 (P : Int), .bool ((y : Int) == 3), .slice A24 X.length c24] (some ⟨b, o, none⟩) l w') (B := fun w' => Own w' (w9.drew.heap.size) A24 c24 X) hP24 hO24 (fun wz hPz hOz => ?_)
    have hzf := hPz.zh.fourFree
    have hz4 := hPz.zh.four
    have hs4 := hPz.sh.four
    have hbW := hPz.wh
    have HPz := Lib.hid hPz
    clear hP24 hO24 hPz
    go_wp2_with fail
    have hzs := (put4v (v0 := .int .i64 (y : Int)) (v1 := .int .i64 (P : Int)) (v2 := .bool ((y : Int) == 3)) (v3 := .slice A24 X.length c24) HPz.out.zh).four
    exact bodyPost_ret (v := .tuple #[.agg #[.int .i64 (y : Int), .int .i64 (P : Int), .bool ((y : Int) == 3), .slice A24 X.length c24], .int .i64 ((t2 : Int) + (n : Int) + 8), .int .i64 0]) (by simp [results, Try.results59, go_sem, hzs]) rfl ⟨A24, c24, X, hX2, by simp, (own4v hOz (by omega)).mono (by omega), below4v hbW (by omega)⟩
  · replace hT := hT.1
    rw [if_pos (by rfl)]
    refine wp_al26 rfl ?_
    intro w8 h8z hb8
    have hl8 := hT.sh.lt
    have hlb := hbl hT
    first | (change Holds w8 wq.heap.size 26 _ at h8z; change _ < wq.heap.size at hl8; change ∀ b9 o9, _ = _ → b9 ≠ wq.heap.size at hlb) | skip
    refine hK.out _ _ (Till.of (SxS.keep hT hb8)) ?_
    clear hT hK K
    refine Go_.step (i := 7) (o := ⟨some 98, Op.call { callee := Callee.value (Operand.func 25), args := #[Operand.tmp 91, Operand.tmp 93, Operand.tmp 97], argTypes := #[28, 3, 24] }, 26, _, _, none⟩) (by kernel_rfl) rfl (fun K hT hK => ?_)
    replace hT := hT.1
    rw [if_pos (by rfl)]
    go_simp
    refine (sx_of k P _ T _ (c - at_) hTl _ _ _ _ _ _ _ _ hTT (by omega) _ (hT2.out ▸ (hT.bh.part (by omega) at_ (t2 + n - at_) (by omega)))).mono ?_
    rintro e w7 ⟨rfl, hb7⟩
    refine hK.out _ _ (Till.of (SxS.keep hT hb7)) ?_
    clear hT hK K
    refine Go_.step (i := 9) (o := ⟨none, Op.store 26 (Operand.tmp 16) (Operand.tmp 98), 0, _, _, none⟩) (by kernel_rfl) rfl (fun K hT hK => ?_)
    replace hT := hT.1
    rw [if_pos (by rfl)]
    refine with_holds (t := 26) (by first | exact h8z | exact h8z.below hb7 h8z.lt) (fun hh => ?_)
    have z8 := hh.eight
    have zf := hh.eightFree
    have hS8 := set8v (v0 := .int .u8 (t0.toNat : Int)) (v1 := .int .u8 (t1.toNat : Int)) (v2 := .int .u8 (s2.toNat : Int)) (v3 := .int .u8 (t3.toNat : Int)) (v4 := .int .u8 (t4.toNat : Int)) (v5 := .int .u8 (t5.toNat : Int)) (v6 := .int .u8 (t6.toNat : Int)) (v7 := .int .u8 (t7.toNat : Int)) hh
    clear hh
    go_simp
    refine hK.out _ _ (Till.of (SxS.set hT hl8 hlb)) ?_
    clear hT hK K
    refine Go_.doneA (by kernel_rfl) (fun hA => ?_)
    clear hlb h8z hb8 hb7 z8 zf
    refine two_worlds (A := fun w' => SxS w k [.int .i64 (y : Int), .int .i64 (P : Int), .bool ((y : Int) == 3), .slice none 0 0] (some ⟨b, o, none⟩) l w') (B := fun w' => Holds w' (wq.heap.size) 26 [.int .u8 (t0.toNat : Int), .int .u8 (t1.toNat : Int), .int .u8 (s2.toNat : Int), .int .u8 (t3.toNat : Int), .int .u8 (t4.toNat : Int), .int .u8 (t5.toNat : Int), .int .u8 (t6.toNat : Int), .int .u8 (t7.toNat : Int)]) hA hS8 (fun wx hA hS9 => ?_)
    have HQ := Lib.hid (And.intro (SxS.keep hA (Below.refl _ _).drew) (hS9.drew))
    clear hA hS8 hS9
    go_wp2_with fail
    have hm1 : IntKind.i64.wrap ((t2 : Int) + (n : Int) + 8) = (t2 : Int) + (n : Int) + 8 := by simp [IntKind.wrap, IntKind.bits, IntKind.signed]; omega
    have hm2 : 0 ≤ (t2 : Int) + (n : Int) + 8 ∧ (t2 : Int) + (n : Int) + 8 ≤ (c : Int) := by omega
    have hm3 : ((t2 : Int) + (n : Int) + 8).toNat = t2 + n + 8 := by omega
    have hm4 : ¬ c = t2 + n := by omega
    have hm5 : (t2 : Int) + (n : Int) ≤ (t2 : Int) + (n : Int) + 8 := by omega
    have hm6 : t2 + n + 8 - (t2 + n) = 8 := by omega
    have harr : ∀ c9 w9, (Instr.arrayAt 26 (.slice (some ⟨b, o + (t2 + n), none⟩) 8 c9)).run Try.prog w9 = .ok (.pointer (some ⟨b, o + (t2 + n), none⟩)) w9 := fun c9 w9 => run_arrayAt (P := Try.prog) w9 26 5 8 _ 8 c9 Try.underlying26 (Nat.le_refl _)
    refine wp_region_till 10 (fun w' => SxS w k [.int .i64 (y : Int), .int .i64 (P : Int), .bool ((y : Int) == 3), .slice none 0 0] (some ⟨b, o, none⟩) l w' ∧ Holds w' (wq.heap.size) 26 [.int .u8 (t0.toNat : Int), .int .u8 (t1.toNat : Int), .int .u8 (s2.toNat : Int), .int .u8 (t3.toNat : Int), .int .u8 (t4.toNat : Int), .int .u8 (t5.toNat : Int), .int .u8 (t6.toNat : Int), .int .u8 (t7.toNat : Int)]) (fun _ => True) (by kernel_rfl) (HQ.out) trivial ?_
    show Go_ _ _ _ _ _ _ _ _ _ _ (World.drew _)
    refine Go_.take (i := 0) (oi := ⟨some 99, Op.load 26 (Operand.tmp 16), 26, _, _, none⟩) (v := ?_) rfl (by kernel_rfl) (by kernel_rfl) (by kernel_rfl) rfl (fun _ _ _ h => h) (Or.inl ⟨by rfl, ?_⟩) ?_
    rotate_left; · intro w0 hS; obtain ⟨⟨hH, hZ0, hS4, hBB, hW⟩, hT8⟩ : SxS w k [.int .i64 (y : Int), .int .i64 (P : Int), .bool ((y : Int) == 3), .slice none 0 0] (some ⟨b, o, none⟩) l w0 ∧ Holds w0 (wq.heap.size) 26 [.int .u8 (t0.toNat : Int), .int .u8 (t1.toNat : Int), .int .u8 (s2.toNat : Int), .int .u8 (t3.toNat : Int), .int .u8 (t4.toNat : Int), .int .u8 (t5.toNat : Int), .int .u8 (t6.toNat : Int), .int .u8 (t7.toNat : Int)] := hS; have h8 := hH.eight; have h4 := hS4.four; have ht8 := hT8.eight; have hu8 := bts_8 (i := t2 + n) hBB (by omega) hU2; go_simp; try with_reducible rfl
    try simp only [Act.put, List.setIfInBounds_toArray, List.set_cons_zero, List.set_cons_succ]
    refine Go_.take (i := 1) (oi := ⟨some 100, Op.move (Operand.tmp 1), 24, _, _, none⟩) (v := ?_) rfl (by kernel_rfl) (by kernel_rfl) (by kernel_rfl) rfl (fun _ _ _ h => h) (Or.inl ⟨by rfl, ?_⟩) ?_
    rotate_left; · intro w0 _; go_simp; try with_reducible rfl
    try simp only [Act.put, List.setIfInBounds_toArray, List.set_cons_zero, List.set_cons_succ]
    refine Go_.take (i := 2) (oi := ⟨some 101, Op.move (Operand.tmp 15), 3, _, _, none⟩) (v := ?_) rfl (by kernel_rfl) (by kernel_rfl) (by kernel_rfl) rfl (fun _ _ _ h => h) (Or.inl ⟨by rfl, ?_⟩) ?_
    rotate_left; · intro w0 _; go_simp; try with_reducible rfl
    try simp only [Act.put, List.setIfInBounds_toArray, List.set_cons_zero, List.set_cons_succ]
    refine Go_.take (i := 3) (oi := ⟨some 102, Op.move (Operand.tmp 15), 3, _, _, none⟩) (v := ?_) rfl (by kernel_rfl) (by kernel_rfl) (by kernel_rfl) rfl (fun _ _ _ h => h) (Or.inl ⟨by rfl, ?_⟩) ?_
    rotate_left; · intro w0 _; go_simp; try with_reducible rfl
    try simp only [Act.put, List.setIfInBounds_toArray, List.set_cons_zero, List.set_cons_succ]
    refine Go_.take (i := 4) (oi := ⟨some 103, Op.binOp BinOp.add 3 (Operand.tmp 102) (Operand.const (Value.int IntKind.i64 8)) 3, 3, _, _, none⟩) (v := ?_) rfl (by kernel_rfl) (by kernel_rfl) (by kernel_rfl) rfl (fun _ _ _ h => h) (Or.inl ⟨by rfl, ?_⟩) ?_
    rotate_left; · intro w0 _; go_simp; try with_reducible rfl
    try simp only [Act.put, List.setIfInBounds_toArray, List.set_cons_zero, List.set_cons_succ]
    refine Go_.take (i := 5) (oi := ⟨some 104, Op.slice 24 (Operand.tmp 100) (some (Operand.tmp 101)) (some (Operand.tmp 103)) none, 24, _, _, none⟩) (v := ?_) rfl (by kernel_rfl) (by kernel_rfl) (by kernel_rfl) rfl (fun _ _ _ h => h) (Or.inl ⟨by rfl, ?_⟩) ?_
    rotate_left; · intro w0 _; go_simp; try with_reducible rfl
    try simp only [Act.put, List.setIfInBounds_toArray, List.set_cons_zero, List.set_cons_succ]
    refine Go_.take (i := 6) (oi := ⟨some 105, Op.sliceToArrayPointer 26 (Operand.tmp 104), 0, _, _, none⟩) (v := ?_) rfl (by kernel_rfl) (by kernel_rfl) (by kernel_rfl) rfl (fun _ _ _ h => h) (Or.inl ⟨by rfl, ?_⟩) ?_
    rotate_left; · intro w0 _; go_simp; try with_reducible rfl
    try simp only [Act.put, List.setIfInBounds_toArray, List.set_cons_zero, List.set_cons_succ]
    refine Go_.take (i := 7) (oi := ⟨some 106, Op.load 26 (Operand.tmp 105), 26, _, _, none⟩) (v := ?_) rfl (by kernel_rfl) (by kernel_rfl) (by kernel_rfl) rfl (fun _ _ _ h => h) (Or.inl ⟨by rfl, ?_⟩) ?_
    rotate_left; · intro w0 hS; obtain ⟨⟨hH, hZ0, hS4, hBB, hW⟩, hT8⟩ : SxS w k [.int .i64 (y : Int), .int .i64 (P : Int), .bool ((y : Int) == 3), .slice none 0 0] (some ⟨b, o, none⟩) l w0 ∧ Holds w0 (wq.heap.size) 26 [.int .u8 (t0.toNat : Int), .int .u8 (t1.toNat : Int), .int .u8 (s2.toNat : Int), .int .u8 (t3.toNat : Int), .int .u8 (t4.toNat : Int), .int .u8 (t5.toNat : Int), .int .u8 (t6.toNat : Int), .int .u8 (t7.toNat : Int)] := hS; have h8 := hH.eight; have h4 := hS4.four; have ht8 := hT8.eight; have hu8 := bts_8 (i := t2 + n) hBB (by omega) hU2; go_simp; try with_reducible rfl
    try simp only [Act.put, List.setIfInBounds_toArray, List.set_cons_zero, List.set_cons_succ]
    refine Go_.step (i := 8) (o := ⟨some 107, Op.call { callee := Callee.value (Operand.func 29), args := #[Operand.tmp 99, Operand.tmp 106], argTypes := #[26, 26] }, 4, _, _, none⟩) (by kernel_rfl) rfl (fun K hT hK => ?_)
    replace hT := hT.1
    rw [if_pos (by rfl)]
    go_simp
    refine (sx_same _ _ _ _ _ _ _ _ _ _ _ _ _ _ _ _ _ _ hTT hUU true hd2 _).mono ?_
    rintro e w9 ⟨rfl, hb9⟩
    refine hK.out _ _ (Till.of ⟨SxS.keep hT.1 hb9, hT.2.below hb9 hT.2.lt⟩) ?_
    clear hT hK K
    refine Go_.take (i := 9) (oi := ⟨some 108, Op.unOp UnOp.not 4 (Operand.tmp 107), 4, _, _, none⟩) (v := ?_) rfl (by kernel_rfl) (by kernel_rfl) (by kernel_rfl) rfl (fun _ _ _ h => h) (Or.inl ⟨by rfl, ?_⟩) ?_
    rotate_left; · intro w0 _; go_simp; try with_reducible rfl
    try simp only [Act.put, List.setIfInBounds_toArray, List.set_cons_zero, List.set_cons_succ]
    refine Go_.doneA (by kernel_rfl) (fun hA2 => ?_)
    have HP := Lib.hid hA2.1
    have hzf := hA2.1.zh.fourFree
    have hz4 := hA2.1.zh.four
    have hs4 := hA2.1.sh.four
    have hbW := hA2.1.wh
    have hp1 := hA2.1.sh.lt
    clear hA2
    go_wp2_with fail
    obtain ⟨D, hD⟩ : ∃ D, Hid (D = (l.drop t2).take n) := ⟨_, rfl⟩
    have hDl : D.length = n := by rw [hD.out, List.length_take, List.length_drop]; omega
    obtain ⟨X, hX⟩ : ∃ X, Hid (X = xorL (streamL k P n) D) := ⟨_, rfl⟩
    have hX2 : Hid (X = xorL (streamL k P n) ((l.drop t2).take n)) := by rw [← hD.out]; exact hX
    have hbA : ∀ b9 o9, some (⟨b, o, none⟩ : Addr) = some ⟨b9, o9, none⟩ → b9 < w.heap.size := fun b9 o9 e9 => by injection e9 with e9; injection e9 with e3 e4; subst e3; exact hbw.out
    have hq3 : t2 ≤ t2 + n := by omega
    have hq4 : ¬ c = t2 := by omega
    have hq5 : t2 + n - t2 = n := by omega
    clear hzf hz4 hs4
    refine wp_region_till 10 (fun w' => ∃ v, SxS w k [.int .i64 (y : Int), .int .i64 (P : Int), .bool ((y : Int) == 3), v] (some ⟨b, o, none⟩) l w') (fun _ => True) (by kernel_rfl) (⟨_, SxS.keep HP.out (Below.refl _ _).drew⟩) trivial ?_
    show Go_ _ _ _ _ _ _ _ _ _ _ (World.drew _)
    refine Go_.take (i := 0) (oi := ⟨some 117, Op.load 28 (Operand.tmp 4), 28, _, _, none⟩) (v := ?_) rfl (by kernel_rfl) (by kernel_rfl) (by kernel_rfl) rfl (fun _ _ _ h => h) (Or.inl ⟨by rfl, ?_⟩) ?_
    rotate_left; · intro w0 hS; obtain ⟨v, hH, hZ0, hS4, hBB, hW⟩ : ∃ v, SxS w k [.int .i64 (y : Int), .int .i64 (P : Int), .bool ((y : Int) == 3), v] (some ⟨b, o, none⟩) l w0 := hS; have h8 := hH.eight; have h4 := hS4.four; go_simp; try with_reducible rfl
    try simp only [Act.put, List.setIfInBounds_toArray, List.set_cons_zero, List.set_cons_succ]
    refine Go_.take (i := 1) (oi := ⟨some 118, Op.fieldAddr 81 (Operand.tmp 11) 1, 0, _, _, none⟩) (v := ?_) rfl (by kernel_rfl) (by kernel_rfl) (by kernel_rfl) rfl (fun _ _ _ h => h) (Or.inl ⟨by rfl, ?_⟩) ?_
    rotate_left; · intro w0 _; go_simp; try with_reducible rfl
    try simp only [Act.put, List.setIfInBounds_toArray, List.set_cons_zero, List.set_cons_succ]
    refine Go_.take (i := 2) (oi := ⟨some 119, Op.load 3 (Operand.tmp 118), 3, _, _, none⟩) (v := ?_) rfl (by kernel_rfl) (by kernel_rfl) (by kernel_rfl) rfl (fun _ _ _ h => h) (Or.inl ⟨by rfl, ?_⟩) ?_
    rotate_left; · intro w0 hS; obtain ⟨v, hH, hZ0, hS4, hBB, hW⟩ : ∃ v, SxS w k [.int .i64 (y : Int), .int .i64 (P : Int), .bool ((y : Int) == 3), v] (some ⟨b, o, none⟩) l w0 := hS; have h8 := hH.eight; have h4 := hS4.four; go_simp; try with_reducible rfl
    try simp only [Act.put, List.setIfInBounds_toArray, List.set_cons_zero, List.set_cons_succ]
    refine Go_.take (i := 3) (oi := ⟨some 120, Op.move (Operand.tmp 1), 24, _, _, none⟩) (v := ?_) rfl (by kernel_rfl) (by kernel_rfl) (by kernel_rfl) rfl (fun _ _ _ h => h) (Or.inl ⟨by rfl, ?_⟩) ?_
    rotate_left; · intro w0 _; go_simp; try with_reducible rfl
    try simp only [Act.put, List.setIfInBounds_toArray, List.set_cons_zero, List.set_cons_succ]
    refine Go_.take (i := 4) (oi := ⟨some 121, Op.move (Operand.tmp 13), 3, _, _, none⟩) (v := ?_) rfl (by kernel_rfl) (by kernel_rfl) (by kernel_rfl) rfl (fun _ _ _ h => h) (Or.inl ⟨by rfl, ?_⟩) ?_
    rotate_left; · intro w0 _; go_simp; try with_reducible rfl
    try simp only [Act.put, List.setIfInBounds_toArray, List.set_cons_zero, List.set_cons_succ]
    refine Go_.take (i := 5) (oi := ⟨some 122, Op.move (Operand.tmp 15), 3, _, _, none⟩) (v := ?_) rfl (by kernel_rfl) (by kernel_rfl) (by kernel_rfl) rfl (fun _ _ _ h => h) (Or.inl ⟨by rfl, ?_⟩) ?_
    rotate_left; · intro w0 _; go_simp; try with_reducible rfl
    try simp only [Act.put, List.setIfInBounds_toArray, List.set_cons_zero, List.set_cons_succ]
    refine Go_.take (i := 6) (oi := ⟨some 123, Op.slice 24 (Operand.tmp 120) (some (Operand.tmp 121)) (some (Operand.tmp 122)) none, 24, _, _, none⟩) (v := ?_) rfl (by kernel_rfl) (by kernel_rfl) (by kernel_rfl) rfl (fun _ _ _ h => h) (Or.inl ⟨by rfl, ?_⟩) ?_
    rotate_left; · intro w0 _; go_simp; try with_reducible rfl
    try simp only [Act.put, List.setIfInBounds_toArray, List.set_cons_zero, List.set_cons_succ]
    refine Go_.step (i := 7) (o := ⟨some 124, Op.call { callee := Callee.value (Operand.func 48), args := #[Operand.tmp 117, Operand.tmp 119, Operand.tmp 123], argTypes := #[28, 3, 24] }, 24, _, _, none⟩) (by kernel_rfl) rfl (fun K hT hK => ?_)
    replace hT := hT.1
    rw [if_pos (by rfl)]
    obtain ⟨v7, hT⟩ := hT
    go_simp
    refine (sx_xor k P _ D n _ hDl (by omega) X hX _ (hD.out ▸ (hT.bh.part (by omega) t2 n (by omega)))).mono ?_
    rintro e w24 ⟨A24, c24, rfl, ho24, hb24⟩
    have hsz24 := hT.sh.lt
    refine hK.out _ _ (Till.of ⟨v7, SxS.keep hT hb24⟩) ?_
    clear hT hK K
    refine Go_.take (i := 8) (oi := ⟨some 125, Op.fieldAddr 81 (Operand.tmp 11) 3, 0, _, _, none⟩) (v := ?_) rfl (by kernel_rfl) (by kernel_rfl) (by kernel_rfl) rfl (fun _ _ _ h => h) (Or.inl ⟨by rfl, ?_⟩) ?_
    rotate_left; · intro w0 _; go_simp; try with_reducible rfl
    try simp only [Act.put, List.setIfInBounds_toArray, List.set_cons_zero, List.set_cons_succ]
    refine Go_.step (i := 9) (o := ⟨none, Op.store 24 (Operand.tmp 125) (Operand.tmp 124), 0, _, _, none⟩) (by kernel_rfl) rfl (fun K hT hK => ?_)
    replace hT := hT.1
    rw [if_pos (by rfl)]
    obtain ⟨v9, hT⟩ := hT
    have hf24 := hT.sh.fourFree
    have h424 := hT.sh.four
    have hP24 := SxS.put3 (v := .slice A24 X.length c24) hT hbA
    have hO24 := own_far (i := 3) (v := .slice A24 X.length c24) ho24 hsz24
    go_simp
    refine hK.out _ _ (Till.of ⟨_, hP24⟩) ?_
    clear hT hK K
    refine Go_.doneA (by kernel_rfl) (fun _ => ?_)
    refine two_worlds (A := fun w' => SxS w k [.int .i64 (y : Int), .int .i64 (P : Int), .bool ((y : Int) == 3), .slice A24 X.length c24] (some ⟨b, o, none⟩) l w') (B := fun w' => Own w' (w9.drew.heap.size) A24 c24 X) hP24 hO24 (fun wz hPz hOz => ?_)
    have hzf := hPz.zh.fourFree
    have hz4 := hPz.zh.four
    have hs4 := hPz.sh.four
    have hbW := hPz.wh
    have HPz := Lib.hid hPz
    clear hP24 hO24 hPz
    go_wp2_with fail
    have hzs := (put4v (v0 := .int .i64 (y : Int)) (v1 := .int .i64 (P : Int)) (v2 := .bool ((y : Int) == 3)) (v3 := .slice A24 X.length c24) HPz.out.zh).four
    exact bodyPost_ret (v := .tuple #[.agg #[.int .i64 (y : Int), .int .i64 (P : Int), .bool ((y : Int) == 3), .slice A24 X.length c24], .int .i64 ((t2 : Int) + (n : Int) + 8), .int .i64 0]) (by simp [results, Try.results59, go_sem, hzs]) rfl ⟨A24, c24, X, hX2, by simp, (own4v hOz (by omega)).mono (by omega), below4v hbW (by omega)⟩
end Go.Proofs.Ytcdklmicbbcknaa
