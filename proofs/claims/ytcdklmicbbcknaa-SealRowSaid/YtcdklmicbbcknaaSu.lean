/-
  The told() of layer 17: it answers true, by a walk of its text (printed by su.py).
-/
import Derived.Test.YtcdklmicbbcknaaSa
import Derived.Lib.SmallJoins
namespace Go.Proofs.Ytcdklmicbbcknaa
open Go Go.RowKit
def K9 : K8 := ⟨9, 0, 0, 0, 0, 0, 0, 0⟩
def K8z : K8 := ⟨8, 0, 0, 0, 0, 0, 0, 0⟩
def sealX : List UInt8 := xorL (streamL K9 0 2) [97, 98]
theorem sealB9 : sealB K9 1 0 [97, 98] = [1, 0, 2] ++ sealX := by
  unfold sealB
  rw [putL_lt (by omega), show ([97, 98] : List UInt8).length = 2 from rfl, putL_lt (by omega)]
  rfl
theorem tag98 : tagL K8z 0 ([1, 0, 2] ++ sealX) ≠ tagL K9 0 ([1, 0, 2] ++ sealX) := by
  unfold sealX
  decide +kernel
theorem seal9 : ∃ x0 x1 t0 t1 t2 t3 t4 t5 t6 t7, sealX = [x0, x1] ∧ tagL K9 0 ([1, 0, 2] ++ sealX) = [t0, t1, t2, t3, t4, t5, t6, t7] ∧ sealL K9 1 0 [97, 98] = [1, 0, 2, x0, x1, t0, t1, t2, t3, t4, t5, t6, t7] := by
  refine ⟨_, _, _, _, _, _, _, _, _, _, rfl, rfl, ?_⟩
  unfold sealL
  rw [sealB9]
  rfl
theorem seal9_len : (sealL K9 1 0 [97, 98]).length = 13 := by
  obtain ⟨x0, x1, t0, t1, t2, t3, t4, t5, t6, t7, _, _, h⟩ := seal9
  rw [h]; rfl
theorem get9 (place : Int) : getP K9 (sealL K9 1 0 [97, 98]) 0 place = if (0 : Int) ≠ place then failR 0 2 else ⟨1, 0, false, [97, 98], 13, 0⟩ := by
  have h := getP_seal K9 [] [] 1 0 [97, 98] place (by decide) (by decide) (by omega) (by decide)
  rw [List.append_nil, List.nil_append, seal9_len] at h
  exact h
theorem get8 : getP K8z (sealL K9 1 0 [97, 98]) 0 0 = failR 0 4 := by
  have hne := tag98
  obtain ⟨x0, x1, t0, t1, t2, t3, t4, t5, t6, t7, hx, ht, h⟩ := seal9
  rw [ht, hx] at hne
  rw [h]
  have e1 : numL [1, 0, 2, x0, x1, t0, t1, t2, t3, t4, t5, t6, t7] (0 + 1) 1048576 = (0, 2, 0) := rfl
  have e2 : numL [1, 0, 2, x0, x1, t0, t1, t2, t3, t4, t5, t6, t7] 2 12100 = (2, 3, 0) := rfl
  unfold getP
  rw [if_neg (by simp), if_neg (by simp), e1]
  dsimp only
  rw [e2]
  dsimp only
  rw [if_neg (by simp), if_neg (by simp), if_neg (by simp), if_pos (by exact hne)]
theorem get12 : getP K9 ((sealL K9 1 0 [97, 98]).take 12) 0 0 = failR 0 5 := by
  obtain ⟨x0, x1, t0, t1, t2, t3, t4, t5, t6, t7, hx, ht, h⟩ := seal9
  rw [h]
  have e1 : numL ([1, 0, 2, x0, x1, t0, t1, t2, t3, t4, t5, t6, t7].take 12) (0 + 1) 1048576 = (0, 2, 0) := rfl
  have e2 : numL ([1, 0, 2, x0, x1, t0, t1, t2, t3, t4, t5, t6, t7].take 12) 2 12100 = (2, 3, 0) := rfl
  unfold getP
  rw [if_neg (by simp), if_neg (by simp), e1]
  dsimp only
  rw [e2]
  dsimp only
  rw [if_neg (by simp), if_neg (by simp), if_pos (by simp)]
theorem getP_end (k : K8) (b : List UInt8) (place : Int) : getP k b b.length place = failR b.length 5 := by
  unfold getP
  rw [if_pos rfl]
theorem all9 : allP K9 (sealL K9 1 0 [97, 98]) ((sealL K9 1 0 [97, 98]).length + 1 - 0) [] 0 = ([⟨1, 0, false, [97, 98], 13, 0⟩], 13, 5) := by
  have h1 := get9 0
  rw [if_neg (by simp)] at h1
  have h2 := getP_end K9 (sealL K9 1 0 [97, 98]) 1
  rw [seal9_len] at h2 ⊢
  rw [show 13 + 1 - 0 = 12 + 1 + 1 by omega, allP, List.length_nil, show (((0 : Nat) : Int)) = 0 from rfl, h1, if_neg (by simp), if_neg (by simp), allP, List.nil_append, List.length_singleton, show (((1 : Nat) : Int)) = 1 from rfl]
  dsimp only
  rw [h2, if_pos (by simp [failR])]
  rfl
end Go.Proofs.Ytcdklmicbbcknaa

namespace Go.Proofs.Ytcdklmicbbcknaa
open Go Go.RowKit
theorem bts_lit {w : World} (l : List UInt8) (fr : Nat × Nat) (n : Nat) (hn : n = w.heap.size) : Bts (w.alloc (.cells (bvals l).toArray 5 fr)) (some ⟨n, 0, none⟩) l := fun h0 =>
  ⟨n, 0, rfl, by simp; omega, fun j hj => by rw [Nat.zero_add, Go.Joins.cell_alloc_mark_at _ _ _ _ _ _ hn]; simpa using bvals_get l j hj⟩
theorem t17_put (A : Option Addr) (c : Nat) (w : World) (hB : Bts w A [97, 98]) : Calls Try.prog 54 #[.agg #[.int .u32 9, .int .u32 0, .int .u32 0, .int .u32 0, .int .u32 0, .int .u32 0, .int .u32 0, .int .u32 0], .agg #[.int .i64 1, .int .i64 0, .bool false, .slice A 2 c]] w fun e w' => ∃ g c' r, Hid (r = sealL K9 1 0 [97, 98]) ∧ e = .returned (.tuple #[.slice (some ⟨g, 0, none⟩) 13 c', .int .i64 0]) ∧ Bts w' (some ⟨g, 0, none⟩) r ∧ 13 ≤ c' ∧ Below w.heap.size w w' := by
  refine (sput_good K9 1 0 false A [97, 98] c w hB (by decide)).mono ?_
  rintro e w' ⟨A', c', r, hr, rfl, ho, hb⟩
  have hl : r.length = 13 := by rw [hr.out, seal9_len]
  have hc := ho.cap
  obtain ⟨g, rfl, _, _⟩ := ho.addr (by omega)
  exact ⟨g, c', r, hr, by rw [hl], ho.bts, by omega, hb⟩
theorem t17_get (k : K8) (ks : Array Value) (hk : k.vals.toArray = ks) (A : Option Addr) (r : List UInt8) (N c : Nat) (hN : r.length = N) (hN2 : N ≤ 13) (hc : N ≤ c) (place : Int) (R : GetR) (hR : Hid (getP k r 0 place = R)) (w : World) (hB : Bts w A r) :
    Calls Try.prog 59 #[.agg ks, .slice A N c, .int .i64 0, .int .i64 place] w fun e w' => ∃ A' c', e = .returned (.tuple #[.agg #[.int .i64 (R.kind : Int), .int .i64 (R.place : Int), .bool R.last, .slice A' R.body.length c'], .int .i64 (R.to : Int), .int .i64 (R.code : Int)]) ∧ Bts w' A' R.body ∧ Below w.heap.size w w' := by
  subst hN hk
  refine (sget_any k A r c 0 place w (by omega) hc hB (by omega) R hR.out.symm).mono ?_
  rintro e w' ⟨A', c', rfl, ho, hb⟩
  exact ⟨A', c', rfl, ho.bts, hb⟩
theorem t17_ok (A : Option Addr) (r : List UInt8) (c : Nat) (hr : Hid (r = sealL K9 1 0 [97, 98])) (hc : 13 ≤ c) (w : World) (hB : Bts w A r) :
    Calls Try.prog 59 #[.agg #[.int .u32 9, .int .u32 0, .int .u32 0, .int .u32 0, .int .u32 0, .int .u32 0, .int .u32 0, .int .u32 0], .slice A 13 c, .int .i64 0, .int .i64 0] w fun e w' => ∃ A' c', e = .returned (.tuple #[.agg #[.int .i64 1, .int .i64 0, .bool false, .slice A' 2 c'], .int .i64 13, .int .i64 0]) ∧ Bts w' A' [97, 98] ∧ Below w.heap.size w w' := by
  have h := get9 0
  rw [if_neg (by simp), ← hr.out] at h
  exact t17_get K9 #[.int .u32 9, .int .u32 0, .int .u32 0, .int .u32 0, .int .u32 0, .int .u32 0, .int .u32 0, .int .u32 0] rfl A r 13 c (by rw [hr.out, seal9_len]) (by omega) hc 0 ⟨1, 0, false, [97, 98], 13, 0⟩ h w hB
theorem t17_far (A : Option Addr) (r : List UInt8) (c : Nat) (hr : Hid (r = sealL K9 1 0 [97, 98])) (hc : 13 ≤ c) (w : World) (hB : Bts w A r) :
    Calls Try.prog 59 #[.agg #[.int .u32 9, .int .u32 0, .int .u32 0, .int .u32 0, .int .u32 0, .int .u32 0, .int .u32 0, .int .u32 0], .slice A 13 c, .int .i64 0, .int .i64 1] w fun e w' => ∃ A' c', e = .returned (.tuple #[.agg #[.int .i64 0, .int .i64 0, .bool false, .slice A' 0 c'], .int .i64 0, .int .i64 2]) ∧ Below w.heap.size w w' := by
  have h := get9 1
  rw [if_pos (by decide), ← hr.out] at h
  refine (t17_get K9 #[.int .u32 9, .int .u32 0, .int .u32 0, .int .u32 0, .int .u32 0, .int .u32 0, .int .u32 0, .int .u32 0] rfl A r 13 c (by rw [hr.out, seal9_len]) (by omega) hc 1 (failR 0 2) h w hB).mono ?_
  rintro e w' ⟨A', c', rfl, _, hb⟩
  exact ⟨A', c', rfl, hb⟩
theorem t17_auth (A : Option Addr) (r : List UInt8) (c : Nat) (hr : Hid (r = sealL K9 1 0 [97, 98])) (hc : 13 ≤ c) (w : World) (hB : Bts w A r) :
    Calls Try.prog 59 #[.agg #[.int .u32 8, .int .u32 0, .int .u32 0, .int .u32 0, .int .u32 0, .int .u32 0, .int .u32 0, .int .u32 0], .slice A 13 c, .int .i64 0, .int .i64 0] w fun e w' => ∃ A' c', e = .returned (.tuple #[.agg #[.int .i64 0, .int .i64 0, .bool false, .slice A' 0 c'], .int .i64 0, .int .i64 4]) ∧ Below w.heap.size w w' := by
  have h := get8
  rw [← hr.out] at h
  refine (t17_get K8z #[.int .u32 8, .int .u32 0, .int .u32 0, .int .u32 0, .int .u32 0, .int .u32 0, .int .u32 0, .int .u32 0] rfl A r 13 c (by rw [hr.out, seal9_len]) (by omega) hc 0 (failR 0 4) h w hB).mono ?_
  rintro e w' ⟨A', c', rfl, _, hb⟩
  exact ⟨A', c', rfl, hb⟩
theorem t17_cut (A : Option Addr) (r : List UInt8) (c : Nat) (hr : Hid (r = sealL K9 1 0 [97, 98])) (hc : 13 ≤ c) (w : World) (hB : Bts w A r) :
    Calls Try.prog 59 #[.agg #[.int .u32 9, .int .u32 0, .int .u32 0, .int .u32 0, .int .u32 0, .int .u32 0, .int .u32 0, .int .u32 0], .slice A 12 c, .int .i64 0, .int .i64 0] w fun e w' => ∃ A' c', e = .returned (.tuple #[.agg #[.int .i64 0, .int .i64 0, .bool false, .slice A' 0 c'], .int .i64 0, .int .i64 5]) ∧ Below w.heap.size w w' := by
  have h := get12
  rw [← hr.out] at h
  have hl : (r.take 12).length = 12 := by rw [List.length_take, hr.out, seal9_len]; rfl
  refine (t17_get K9 #[.int .u32 9, .int .u32 0, .int .u32 0, .int .u32 0, .int .u32 0, .int .u32 0, .int .u32 0, .int .u32 0] rfl A (r.take 12) 12 c hl (by omega) (by omega) 0 (failR 0 5) h w ?_).mono ?_
  · intro h0
    obtain ⟨b, o, e, hlt, hcc⟩ := hB (by rw [hr.out, seal9_len]; omega)
    refine ⟨b, o, e, hlt, fun j hj => ?_⟩
    rw [hl] at hj
    rw [hcc j (by rw [hr.out, seal9_len]; omega)]
    congr 3
    rw [List.getD_eq_getElem?_getD, List.getD_eq_getElem?_getD, List.getElem?_take, if_pos hj]
  · rintro e w' ⟨A', c', rfl, _, hb⟩
    exact ⟨A', c', rfl, hb⟩
theorem t17_out (A : Option Addr) (c : Nat) (w : World) :
    Calls Try.prog 59 #[.agg #[.int .u32 9, .int .u32 0, .int .u32 0, .int .u32 0, .int .u32 0, .int .u32 0, .int .u32 0, .int .u32 0], .slice A 13 c, .int .i64 14, .int .i64 0] w fun e w' => e = .returned (.tuple #[.agg #[.int .i64 0, .int .i64 0, .bool false, .slice none 0 0], .int .i64 14, .int .i64 1]) ∧ Below w.heap.size w w' :=
  sget_0 K9 A 13 c 14 0 w (by omega)
theorem t17_all (A : Option Addr) (r : List UInt8) (c : Nat) (hr : Hid (r = sealL K9 1 0 [97, 98])) (hc : 13 ≤ c) (w : World) (hB : Bts w A r) :
    Calls Try.prog 55 #[.agg #[.int .u32 9, .int .u32 0, .int .u32 0, .int .u32 0, .int .u32 0, .int .u32 0, .int .u32 0, .int .u32 0], .slice A 13 c, .int .i64 0] w fun e w' => ∃ A' c', e = .returned (.tuple #[.slice A' 1 c', .int .i64 13, .int .i64 5]) ∧ Below w.heap.size w w' := by
  have hl : r.length = 13 := by rw [hr.out, seal9_len]
  have h := all_any K9 A r c 0 w (by omega) (by omega) hB (by omega)
  rw [hl] at h
  refine h.mono ?_
  rintro e w' ⟨A', c', segs, rs, to, cd, hP, hk, rfl, _, _, hb⟩
  have h9 := all9
  rw [← hr.out, hl] at h9
  have hP' := h9.symm.trans hP.out
  simp only [Prod.mk.injEq] at hP'
  obtain ⟨rfl, rfl, rfl⟩ := hP'
  have hsl : segs.length = 1 := by
    have := congrArg List.length hk.out
    simpa using this
  exact ⟨A', c', by rw [hsl]; rfl, hb⟩
theorem run_ab {w : World} {A : Option Addr} {c : Nat} (h : Bts w A [97, 98]) : (convert 24 9 (.slice A 2 c)).run Try.prog w = .ok (.string ⟨#[97, 98]⟩) w := run_str h c
theorem wp_al81 {o : Oper} {a : Act} {K : Act → World → Prop} {Q : Exit → Act → World → Prop} {w : World} (ho : o.op = Op.alloc 81)
    (hK : ∀ w', Holds w' w.heap.size 81 [.int .i64 0, .int .i64 0, .bool false, .slice none 0 0] → Below w.heap.size w w' → K (a.put o.dst (.pointer (some ⟨w.heap.size, 0, none⟩))) w') : o.wp Try.prog a w K Q := by
  obtain ⟨dst, op, type, pos, after, guard⟩ := o
  obtain rfl : op = Op.alloc 81 := ho
  go_simp
  exact hK _ (Holds.newAt w 81 [.int .i64 0, .int .i64 0, .bool false, .slice none 0 0] (n := w.heap.size) rfl) ((Below.refl _ _).alloc (Nat.le_refl _) _)
theorem far4v {w : World} {g g2 : Nat} {t : TypeId} {cs : List Value} {v0 v1 v2 v3 : Value} (h : Holds w g2 t cs) (hne : g2 ≠ g) : Holds ((((w.setCell ⟨g, 0, none⟩ v0).setCell ⟨g, 1, none⟩ v1).setCell ⟨g, 2, none⟩ v2).setCell ⟨g, 3, none⟩ v3) g2 t cs :=
  Holds.far (p := ⟨g, 3, none⟩) (Holds.far (p := ⟨g, 2, none⟩) (Holds.far (p := ⟨g, 1, none⟩) (Holds.far (p := ⟨g, 0, none⟩) h hne v0) hne v1) hne v2) hne v3
theorem bts4v {w : World} {A : Option Addr} {l : List UInt8} {g : Nat} {v0 v1 v2 v3 : Value} (h : Bts w A l) (hA : ∀ b o, A = some ⟨b, o, none⟩ → b ≠ g) : Bts ((((w.setCell ⟨g, 0, none⟩ v0).setCell ⟨g, 1, none⟩ v1).setCell ⟨g, 2, none⟩ v2).setCell ⟨g, 3, none⟩ v3) A l :=
  bts_far (bts_far (bts_far (bts_far h hA) hA) hA) hA
theorem Bts.blk {w : World} {A : Option Addr} {l : List UInt8} {g : Nat} (h : Bts w A l) (h0 : 0 < l.length) (hg : w.heap.size ≤ g) : ∀ b o, A = some ⟨b, o, none⟩ → b ≠ g := fun b o e => by
  obtain ⟨b', o', e', hlt, _⟩ := h h0
  rw [e] at e'
  injection e' with e'
  injection e' with e1 _
  omega
structure T17 (w0 : World) (g4 : Nat) (A : Option Addr) (r : List UInt8) (A1 : Option Addr) (c1 : Nat) (w : World) : Prop where
  kh : Holds w w0.heap.size 28 [.int .u32 9, .int .u32 0, .int .u32 0, .int .u32 0, .int .u32 0, .int .u32 0, .int .u32 0, .int .u32 0]
  sh : Holds w g4 81 [.int .i64 1, .int .i64 0, .bool false, .slice A1 2 c1]
  bh : Bts w A r
  b1 : Bts w A1 [97, 98]
  wh : Below w0.heap.size w0 w
theorem T17.keep {w0 w w' : World} {g4 : Nat} {A A1 : Option Addr} {r : List UInt8} {c1 : Nat} (h : T17 w0 g4 A r A1 c1 w) (hb : Below w.heap.size w w') : T17 w0 g4 A r A1 c1 w' :=
  ⟨h.kh.below hb h.kh.lt, h.sh.below hb h.sh.lt, h.bh.below hb, h.b1.below hb, h.wh.trans (hb.mono h.wh.size)⟩
theorem T17.alloc {w0 w : World} {g4 : Nat} {A A1 : Option Addr} {r : List UInt8} {c1 : Nat} (h : T17 w0 g4 A r A1 c1 w) (o : Obj) : T17 w0 g4 A r A1 c1 (w.alloc o) := h.keep ((Below.refl _ _).alloc (Nat.le_refl _) o)
theorem T17.set {w0 w : World} {g4 g : Nat} {A A1 : Option Addr} {r : List UInt8} {c1 : Nat} {v0 v1 v2 v3 : Value} (h : T17 w0 g4 A r A1 c1 w) (h1 : w0.heap.size < g) (h2 : g4 < g) (hA : ∀ b o, A = some ⟨b, o, none⟩ → b ≠ g) (hA1 : ∀ b o, A1 = some ⟨b, o, none⟩ → b ≠ g) : T17 w0 g4 A r A1 c1 ((((w.setCell ⟨g, 0, none⟩ v0).setCell ⟨g, 1, none⟩ v1).setCell ⟨g, 2, none⟩ v2).setCell ⟨g, 3, none⟩ v3) :=
  ⟨far4v h.kh (by omega), far4v h.sh (by omega), bts4v h.bh hA, bts4v h.b1 hA1, below4v h.wh (by omega)⟩
theorem ret_bool17 {b : Bool} (h : b = true) : Ending.returned (.bool b) = .returned (.bool true) := by rw [h]
attribute [local go_sem ↓] run_ab
set_option maxRecDepth 20000 in
set_option maxHeartbeats 16000000 in
theorem told17 (w : World) : Calls Try.prog 52 #[] w fun e w' => e = .returned (.bool true) ∧ Below w.heap.size w w' := by
  have hk0 := (Holds.newAt w 28 [.int .u32 9, .int .u32 0, .int .u32 0, .int .u32 0, .int .u32 0, .int .u32 0, .int .u32 0, .int .u32 0] (n := w.heap.size) rfl).alloc (.cells #[.int .u8 97, .int .u8 98] 5 (2, 3))
  have hb0 : Below w.heap.size w ((w.alloc (.cells #[.int .u32 9, .int .u32 0, .int .u32 0, .int .u32 0, .int .u32 0, .int .u32 0, .int .u32 0, .int .u32 0] 28)).alloc (.cells #[.int .u8 97, .int .u8 98] 5 (2, 3))) := ((Below.refl _ _).alloc (Nat.le_refl _) _).alloc (by simp) _
  have hab : Bts ((w.alloc (.cells #[.int .u32 9, .int .u32 0, .int .u32 0, .int .u32 0, .int .u32 0, .int .u32 0, .int .u32 0, .int .u32 0] 28)).alloc (.cells #[.int .u8 97, .int .u8 98] 5 (2, 3))) (some ⟨w.heap.size + 1, 0, none⟩) [97, 98] := bts_lit [97, 98] (2, 3) _ (by simp)
  have kc : (convert 24 24 (.slice (some ⟨w.heap.size + 1, 0, none⟩) 2 2)).run Try.prog ((w.alloc (.cells #[.int .u32 9, .int .u32 0, .int .u32 0, .int .u32 0, .int .u32 0, .int .u32 0, .int .u32 0, .int .u32 0] 28)).alloc (.cells #[.int .u8 97, .int .u8 98] 5)) = .ok (.slice (some ⟨w.heap.size + 1, 0, none⟩) 2 2) ((w.alloc (.cells #[.int .u32 9, .int .u32 0, .int .u32 0, .int .u32 0, .int .u32 0, .int .u32 0, .int .u32 0, .int .u32 0] 28)).alloc (.cells #[.int .u8 97, .int .u8 98] 5 (2, 3))) := Go.Joins.run_convert_bytes_const_at (P := Try.prog) (w.alloc (.cells #[.int .u32 9, .int .u32 0, .int .u32 0, .int .u32 0, .int .u32 0, .int .u32 0, .int .u32 0, .int .u32 0] 28)) 24 5 #[.int .u8 97, .int .u8 98] 2 2 (w.heap.size + 1) (by simp) Try.underlying24 Try.underlying5
  go_enter Try.func52, Try.ntmps52
  go_wp2_with fail
  refine (t17_put _ _ _ hab).mono ?_
  rintro e w2 ⟨g, c, r, hr, rfl, hB2, hc, hb2⟩
  have hrl : 0 < r.length := by rw [hr.out, seal9_len]; omega
  have HK := Lib.hid (And.intro (hk0.below hb2 hk0.lt) (And.intro hB2 (hb0.trans (hb2.mono hb0.size))))
  have h8 := (HK.out.1).eight
  clear kc hk0 hb0 hab hb2 hB2
  go_wp2_with fail
  refine (t17_ok _ r _ hr hc _ HK.out.2.1).mono ?_
  rintro e w3 ⟨A1, c1, rfl, hab3, hb3⟩
  have HT : Hid (T17 w w3.heap.size (some ⟨g, 0, none⟩) r A1 c1 (w3.alloc (.cells #[.int .i64 1, .int .i64 0, .bool false, .slice A1 2 c1] 81))) := Lib.hid ⟨(HK.out.1.below hb3 HK.out.1.lt).alloc _, Holds.newAt w3 81 [.int .i64 1, .int .i64 0, .bool false, .slice A1 2 c1] rfl, (HK.out.2.1.below hb3).alloc _, hab3.alloc _, (HK.out.2.2.trans (hb3.mono HK.out.2.2.size)).alloc (by have := HK.out.2.2.size; have := hb3.size; omega) _⟩
  clear hab3 hb3 h8 HK
  have h8 := HT.out.kh.eight
  go_wp2_with fail
  generalize w3.alloc (.cells #[.int .i64 1, .int .i64 0, .bool false, .slice A1 2 c1] 81) = wq at *
  refine (t17_far _ r _ hr hc _ HT.out.bh).mono ?_
  rintro e w4 ⟨A4, c4, rfl, hb4⟩
  have HT4 := Lib.hid ((HT.out.keep hb4).alloc (.cells #[.int .i64 0, .int .i64 0, .bool false, .slice A4 0 c4] 81))
  clear h8 HT hb4
  have h8 := HT4.out.kh.eight
  go_wp2_with fail
  refine (t17_auth _ r _ hr hc _ HT4.out.bh).mono ?_
  rintro e w5 ⟨A5, c5, rfl, hb5⟩
  have HT5 := Lib.hid ((HT4.out.keep hb5).alloc (.cells #[.int .i64 0, .int .i64 0, .bool false, .slice A5 0 c5] 81))
  clear h8 HT4 hb5
  go_wp2_with fail
  generalize w5.alloc (.cells #[.int .i64 0, .int .i64 0, .bool false, .slice A5 0 c5] 81) = wp at *
  have hcI : (12 : Int) ≤ (c : Int) := by omega
  have hcI0 : (0 : Int) ≤ (c : Int) := by omega
  have hcN : ¬ c = 0 := by omega
  refine wp_region_till 12 (fun w' => T17 w w3.heap.size (some ⟨g, 0, none⟩) r A1 c1 w') (fun _ => True) (by kernel_rfl) ((T17.keep HT5.out (Below.refl _ _).drew)) trivial ?_
  show Go_ _ _ _ _ _ _ _ _ _ _ (World.drew _)
  refine Go_.take (i := 0) (oi := ⟨some 56, Op.load 28 (Operand.tmp 1), 28, _, _, none⟩) (v := ?_) rfl (by kernel_rfl) (by kernel_rfl) (by kernel_rfl) rfl (fun _ _ _ h => h) (Or.inl ⟨by rfl, ?_⟩) ?_
  rotate_left; · intro w0 hS; obtain ⟨hH, hS4, hBB, hB1, hW⟩ : T17 w w3.heap.size (some ⟨g, 0, none⟩) r A1 c1 w0 := hS; have h8 := hH.eight; have h4 := hS4.four; go_simp; try with_reducible rfl
  try simp only [Act.put, List.setIfInBounds_toArray, List.set_cons_zero, List.set_cons_succ]
  refine Go_.take (i := 1) (oi := ⟨some 57, Op.move (Operand.tmp 2), 24, _, _, none⟩) (v := ?_) rfl (by kernel_rfl) (by kernel_rfl) (by kernel_rfl) rfl (fun _ _ _ h => h) (Or.inl ⟨by rfl, ?_⟩) ?_
  rotate_left; · intro w0 _; go_simp; try with_reducible rfl
  try simp only [Act.put, List.setIfInBounds_toArray, List.set_cons_zero, List.set_cons_succ]
  refine Go_.take (i := 2) (oi := ⟨some 58, Op.slice 24 (Operand.tmp 57) none (some (Operand.const (Value.int IntKind.i64 12))) none, 24, _, _, none⟩) (v := ?_) rfl (by kernel_rfl) (by kernel_rfl) (by kernel_rfl) rfl (fun _ _ _ h => h) (Or.inl ⟨by rfl, ?_⟩) ?_
  rotate_left; · intro w0 _; go_simp; try with_reducible rfl
  try simp only [Act.put, List.setIfInBounds_toArray, List.set_cons_zero, List.set_cons_succ]
  refine Go_.step2 (i := 3) (j := 8) (oi := ⟨some 59, Op.call { callee := Callee.value (Operand.func 59), args := #[Operand.tmp 56, Operand.tmp 58, Operand.const (Value.int IntKind.i64 0), Operand.const (Value.int IntKind.i64 0)], argTypes := #[28, 24, 3, 3] }, 89, _, _, none⟩) (oj := ⟨some 13, Op.alloc 81, 0, _, _, none⟩) (by kernel_rfl) rfl rfl (fun K hT hK => ?_) (fun K hT hK => ?_)
  · replace hT := hT.1
    rw [if_pos (by rfl)]
    go_simp
    refine (t17_cut _ r _ hr hc _ hT.bh).mono ?_
    rintro e w7 ⟨A7, c7, rfl, hb7⟩
    refine hK.out _ _ (Till.of (T17.keep hT hb7)) ?_
    clear hT hK K
    refine Go_.take (i := 4) (oi := ⟨some 55, Op.move (Operand.tmp 59), 89, _, _, none⟩) (v := ?_) rfl (by kernel_rfl) (by kernel_rfl) (by kernel_rfl) rfl (fun _ _ _ h => h) (Or.inl ⟨by rfl, ?_⟩) ?_
    rotate_left; · intro w0 _; go_simp; try with_reducible rfl
    try simp only [Act.put, List.setIfInBounds_toArray, List.set_cons_zero, List.set_cons_succ]
    refine Go_.take (i := 5) (oi := ⟨some 60, Op.extract (Operand.tmp 55) 0, 81, _, _, none⟩) (v := ?_) rfl (by kernel_rfl) (by kernel_rfl) (by kernel_rfl) rfl (fun _ _ _ h => h) (Or.inl ⟨by rfl, ?_⟩) ?_
    rotate_left; · intro w0 _; go_simp; try with_reducible rfl
    try simp only [Act.put, List.setIfInBounds_toArray, List.set_cons_zero, List.set_cons_succ]
    refine Go_.take (i := 6) (oi := ⟨some 61, Op.extract (Operand.tmp 55) 1, 3, _, _, none⟩) (v := ?_) rfl (by kernel_rfl) (by kernel_rfl) (by kernel_rfl) rfl (fun _ _ _ h => h) (Or.inl ⟨by rfl, ?_⟩) ?_
    rotate_left; · intro w0 _; go_simp; try with_reducible rfl
    try simp only [Act.put, List.setIfInBounds_toArray, List.set_cons_zero, List.set_cons_succ]
    refine Go_.take (i := 7) (oi := ⟨some 62, Op.extract (Operand.tmp 55) 2, 3, _, _, none⟩) (v := ?_) rfl (by kernel_rfl) (by kernel_rfl) (by kernel_rfl) rfl (fun _ _ _ h => h) (Or.inl ⟨by rfl, ?_⟩) ?_
    rotate_left; · intro w0 _; go_simp; try with_reducible rfl
    try simp only [Act.put, List.setIfInBounds_toArray, List.set_cons_zero, List.set_cons_succ]
    refine Go_.step (i := 8) (o := ⟨some 13, Op.alloc 81, 0, _, _, none⟩) (by kernel_rfl) rfl (fun K hT hK => ?_)
    replace hT := hT.1
    rw [if_pos (by rfl)]
    refine wp_al81 rfl ?_
    intro w8 h8z hb8
    have hl1 := hT.kh.lt
    have hl2 := hT.sh.lt
    have hl3 := Bts.blk hT.bh hrl (Nat.le_refl _)
    have hl4 := Bts.blk hT.b1 (by simp) (Nat.le_refl _)
    first | (change Holds w8 wp.heap.size 81 _ at h8z; change _ < wp.heap.size at hl1; change _ < wp.heap.size at hl2; change ∀ b9 o9, _ = _ → b9 ≠ wp.heap.size at hl3; change ∀ b9 o9, _ = _ → b9 ≠ wp.heap.size at hl4) | skip
    refine hK.out _ _ (Till.of (T17.keep hT hb8)) ?_
    clear hT hK K
    refine Go_.step (i := 9) (o := ⟨none, Op.store 81 (Operand.tmp 13) (Operand.tmp 60), 0, _, _, none⟩) (by kernel_rfl) rfl (fun K hT hK => ?_)
    replace hT := hT.1
    rw [if_pos (by rfl)]
    refine with_holds (t := 81) (by first | exact h8z | exact h8z.below hb7 h8z.lt) (fun hh => ?_)
    have z8 := hh.four
    have zf := hh.fourFree
    clear hh
    go_simp
    refine hK.out _ _ (Till.of (T17.set hT hl1 hl2 hl3 hl4)) ?_
    clear hT hK K
    refine Go_.take (i := 10) (oi := ⟨some 14, Op.assign (Operand.tmp 61), 3, _, _, none⟩) (v := ?_) rfl (by kernel_rfl) (by kernel_rfl) (by kernel_rfl) rfl (fun _ _ _ h => h) (Or.inl ⟨by rfl, ?_⟩) ?_
    rotate_left; · intro w0 _; go_simp; try with_reducible rfl
    try simp only [Act.put, List.setIfInBounds_toArray, List.set_cons_zero, List.set_cons_succ]
    refine Go_.take (i := 11) (oi := ⟨some 15, Op.assign (Operand.tmp 62), 3, _, _, none⟩) (v := ?_) rfl (by kernel_rfl) (by kernel_rfl) (by kernel_rfl) rfl (fun _ _ _ h => h) (Or.inl ⟨by rfl, ?_⟩) ?_
    rotate_left; · intro w0 _; go_simp; try with_reducible rfl
    try simp only [Act.put, List.setIfInBounds_toArray, List.set_cons_zero, List.set_cons_succ]
    refine Go_.doneA (by kernel_rfl) (fun hA => ?_)
    clear hl1 hl2 hl3 hl4 h8z hb8 hb7 z8 zf
    refine two_worlds (A := fun w' => T17 w w3.heap.size (some ⟨g, 0, none⟩) r A1 c1 w') (B := fun _ => True) hA trivial (fun wx hA _ => ?_)
    have HQ := Lib.hid hA
    clear hA
    have h8 := HQ.out.kh.eight
    go_wp2_with fail
    refine (t17_all _ r _ hr hc _ HQ.out.bh).mono ?_
    rintro e w9 ⟨A9, c9, rfl, hb9⟩
    have H9 := Lib.hid (HQ.out.keep hb9)
    clear h8 hb9
    have h8 := H9.out.kh.eight
    go_wp2_with fail
    refine (t17_out _ _ _).mono ?_
    rintro e wa ⟨rfl, hba⟩
    have Ha := Lib.hid ((H9.out.keep hba).alloc (.cells #[.int .i64 0, .int .i64 0, .bool false, .slice none 0 0] 81))
    clear h8 hba
    have h4 := Ha.out.sh.four
    have hab := Ha.out.b1
    go_wp2_with fail
    refine (may_any 1 0 false _ 2 _ _).mono ?_
    rintro e wb ⟨rfl, hbb⟩
    have Hb := Lib.hid (Ha.out.keep hbb)
    clear h4 hab hbb
    have hm1 : mayB 1 0 false 2 = true := by decide
    rw [hm1]
    go_wp2_with fail
    refine (may_any 3 0 false _ 0 _ _).mono ?_
    rintro e wc ⟨rfl, hbc⟩
    have Hc := Lib.hid (Hb.out.keep hbc)
    have hm2 : mayB 3 0 false 0 = false := by decide
    clear hbc
    rw [hm2]
    go_wp2_with fail
    go_ret
    exact ⟨ret_bool17 (by simp), Hc.out.wh⟩
  · replace hT := hT.1
    rw [if_pos (by rfl)]
    refine wp_al81 rfl ?_
    intro w8 h8z hb8
    have hl1 := hT.kh.lt
    have hl2 := hT.sh.lt
    have hl3 := Bts.blk hT.bh hrl (Nat.le_refl _)
    have hl4 := Bts.blk hT.b1 (by simp) (Nat.le_refl _)
    first | (change Holds w8 wp.heap.size 81 _ at h8z; change _ < wp.heap.size at hl1; change _ < wp.heap.size at hl2; change ∀ b9 o9, _ = _ → b9 ≠ wp.heap.size at hl3; change ∀ b9 o9, _ = _ → b9 ≠ wp.heap.size at hl4) | skip
    refine hK.out _ _ (Till.of (T17.keep hT hb8)) ?_
    clear hT hK K
    refine Go_.step (i := 3) (o := ⟨some 59, Op.call { callee := Callee.value (Operand.func 59), args := #[Operand.tmp 56, Operand.tmp 58, Operand.const (Value.int IntKind.i64 0), Operand.const (Value.int IntKind.i64 0)], argTypes := #[28, 24, 3, 3] }, 89, _, _, none⟩) (by kernel_rfl) rfl (fun K hT hK => ?_)
    replace hT := hT.1
    rw [if_pos (by rfl)]
    go_simp
    refine (t17_cut _ r _ hr hc _ hT.bh).mono ?_
    rintro e w7 ⟨A7, c7, rfl, hb7⟩
    refine hK.out _ _ (Till.of (T17.keep hT hb7)) ?_
    clear hT hK K
    refine Go_.take (i := 4) (oi := ⟨some 55, Op.move (Operand.tmp 59), 89, _, _, none⟩) (v := ?_) rfl (by kernel_rfl) (by kernel_rfl) (by kernel_rfl) rfl (fun _ _ _ h => h) (Or.inl ⟨by rfl, ?_⟩) ?_
    rotate_left; · intro w0 _; go_simp; try with_reducible rfl
    try simp only [Act.put, List.setIfInBounds_toArray, List.set_cons_zero, List.set_cons_succ]
    refine Go_.take (i := 5) (oi := ⟨some 60, Op.extract (Operand.tmp 55) 0, 81, _, _, none⟩) (v := ?_) rfl (by kernel_rfl) (by kernel_rfl) (by kernel_rfl) rfl (fun _ _ _ h => h) (Or.inl ⟨by rfl, ?_⟩) ?_
    rotate_left; · intro w0 _; go_simp; try with_reducible rfl
    try simp only [Act.put, List.setIfInBounds_toArray, List.set_cons_zero, List.set_cons_succ]
    refine Go_.take (i := 6) (oi := ⟨some 61, Op.extract (Operand.tmp 55) 1, 3, _, _, none⟩) (v := ?_) rfl (by kernel_rfl) (by kernel_rfl) (by kernel_rfl) rfl (fun _ _ _ h => h) (Or.inl ⟨by rfl, ?_⟩) ?_
    rotate_left; · intro w0 _; go_simp; try with_reducible rfl
    try simp only [Act.put, List.setIfInBounds_toArray, List.set_cons_zero, List.set_cons_succ]
    refine Go_.take (i := 7) (oi := ⟨some 62, Op.extract (Operand.tmp 55) 2, 3, _, _, none⟩) (v := ?_) rfl (by kernel_rfl) (by kernel_rfl) (by kernel_rfl) rfl (fun _ _ _ h => h) (Or.inl ⟨by rfl, ?_⟩) ?_
    rotate_left; · intro w0 _; go_simp; try with_reducible rfl
    try simp only [Act.put, List.setIfInBounds_toArray, List.set_cons_zero, List.set_cons_succ]
    refine Go_.step (i := 9) (o := ⟨none, Op.store 81 (Operand.tmp 13) (Operand.tmp 60), 0, _, _, none⟩) (by kernel_rfl) rfl (fun K hT hK => ?_)
    replace hT := hT.1
    rw [if_pos (by rfl)]
    refine with_holds (t := 81) (by first | exact h8z | exact h8z.below hb7 h8z.lt) (fun hh => ?_)
    have z8 := hh.four
    have zf := hh.fourFree
    clear hh
    go_simp
    refine hK.out _ _ (Till.of (T17.set hT hl1 hl2 hl3 hl4)) ?_
    clear hT hK K
    refine Go_.take (i := 10) (oi := ⟨some 14, Op.assign (Operand.tmp 61), 3, _, _, none⟩) (v := ?_) rfl (by kernel_rfl) (by kernel_rfl) (by kernel_rfl) rfl (fun _ _ _ h => h) (Or.inl ⟨by rfl, ?_⟩) ?_
    rotate_left; · intro w0 _; go_simp; try with_reducible rfl
    try simp only [Act.put, List.setIfInBounds_toArray, List.set_cons_zero, List.set_cons_succ]
    refine Go_.take (i := 11) (oi := ⟨some 15, Op.assign (Operand.tmp 62), 3, _, _, none⟩) (v := ?_) rfl (by kernel_rfl) (by kernel_rfl) (by kernel_rfl) rfl (fun _ _ _ h => h) (Or.inl ⟨by rfl, ?_⟩) ?_
    rotate_left; · intro w0 _; go_simp; try with_reducible rfl
    try simp only [Act.put, List.setIfInBounds_toArray, List.set_cons_zero, List.set_cons_succ]
    refine Go_.doneA (by kernel_rfl) (fun hA => ?_)
    clear hl1 hl2 hl3 hl4 h8z hb8 hb7 z8 zf
    refine two_worlds (A := fun w' => T17 w w3.heap.size (some ⟨g, 0, none⟩) r A1 c1 w') (B := fun _ => True) hA trivial (fun wx hA _ => ?_)
    have HQ := Lib.hid hA
    clear hA
    have h8 := HQ.out.kh.eight
    go_wp2_with fail
    refine (t17_all _ r _ hr hc _ HQ.out.bh).mono ?_
    rintro e w9 ⟨A9, c9, rfl, hb9⟩
    have H9 := Lib.hid (HQ.out.keep hb9)
    clear h8 hb9
    have h8 := H9.out.kh.eight
    go_wp2_with fail
    refine (t17_out _ _ _).mono ?_
    rintro e wa ⟨rfl, hba⟩
    have Ha := Lib.hid ((H9.out.keep hba).alloc (.cells #[.int .i64 0, .int .i64 0, .bool false, .slice none 0 0] 81))
    clear h8 hba
    have h4 := Ha.out.sh.four
    have hab := Ha.out.b1
    go_wp2_with fail
    refine (may_any 1 0 false _ 2 _ _).mono ?_
    rintro e wb ⟨rfl, hbb⟩
    have Hb := Lib.hid (Ha.out.keep hbb)
    clear h4 hab hbb
    have hm1 : mayB 1 0 false 2 = true := by decide
    rw [hm1]
    go_wp2_with fail
    refine (may_any 3 0 false _ 0 _ _).mono ?_
    rintro e wc ⟨rfl, hbc⟩
    have Hc := Lib.hid (Hb.out.keep hbc)
    have hm2 : mayB 3 0 false 0 = false := by decide
    clear hbc
    rw [hm2]
    go_wp2_with fail
    go_ret
    exact ⟨ret_bool17 (by simp), Hc.out.wh⟩
end Go.Proofs.Ytcdklmicbbcknaa
