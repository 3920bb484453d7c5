/-
  The helpers of layer 17 (Few, SameSeg, segs, row): what they come to, by walks of their text.
-/
import Derived.Test.YtcdklmicbbcknaaSa
import Derived.Test.YtcdklmicbbcknaaEs
import Derived.Test.YtcdklmicbbcknaaNt
import Derived.Test.YtcdklmicbbcknaaSu
namespace Go.Proofs.Ytcdklmicbbcknaa
open Go Go.RowKit
theorem Sgs.cells {w : World} {b o : Nat} {l : List SegV} (h : Sgs w (some ⟨b, o, none⟩) l) (j : Nat) (hj : j < l.length) :
    w.cell? ⟨b, o + j * 4, none⟩ = some (.int .i64 l[j].kind) ∧ w.cell? ⟨b, o + j * 4 + 1, none⟩ = some (.int .i64 l[j].place) ∧ w.cell? ⟨b, o + j * 4 + 2, none⟩ = some (.bool l[j].last) ∧ w.cell? ⟨b, o + j * 4 + 3, none⟩ = some (.slice l[j].A l[j].body.length l[j].c) := by
  obtain ⟨b', o', e, _, h0, h1, h2, h3⟩ := h.at j hj
  injection e with e
  injection e with e1 e2
  subst e1 e2
  rw [Nat.mul_comm]
  exact ⟨h0, h1, h2, h3⟩
theorem Sgs.some {w : World} {A : Option Addr} {l : List SegV} (h : Sgs w A l) (h0 : 0 < l.length) : ∃ b o, A = some ⟨b, o, none⟩ ∧ b < w.heap.size := by
  obtain ⟨b, o, e, hb, _⟩ := h h0
  exact ⟨b, o, e, hb⟩
set_option maxRecDepth 20000 in
set_option maxHeartbeats 4000000 in
theorem few_any (A : Option Addr) (l : List SegV) (c most : Nat) (w : World) (hl : l.length ≤ 9223372036854775807) (hS : Sgs w A l) :
    Calls Try.prog 51 #[.slice A l.length c, .int .i64 most] w fun e w' => e = .returned (.bool (decide ((∀ s ∈ l, s.body.length ≤ 300) ∧ l.length ≤ most))) ∧ w = w' := by
  go_enter Try.func51, Try.ntmps51
  go_wp2_with fail
  go_loopw [5] (fun x wr => ∃ i : Nat, i ≤ l.length ∧ x = .int .i64 i ∧ wr = w ∧ Hid (∀ j (hj : j < l.length), j < i → l[j].body.length ≤ 300)) (fun x _ => l.length - (intOf x).toNat)
  case atStart => exact ⟨0, by omega, rfl, rfl, fun j _ h => by omega⟩
  case round =>
    obtain ⟨i, hi, rfl, rfl, hprev⟩ := hrel
    by_cases hlt : i < l.length
    · obtain ⟨b, o, rfl, _⟩ := hS.some (by omega)
      obtain ⟨_, _, _, h3⟩ := hS.cells i hlt
      have HS := Lib.hid hS
      clear hS
      by_cases hn : l[i].body.length ≤ 300
      · have hprev2 : Hid (∀ j (hj : j < l.length), j < i + 1 → l[j].body.length ≤ 300) := fun j hj hji => by
          by_cases e : j = i
          · subst e; exact hn
          · exact hprev.out j hj (by omega)
        generalize l[i].body.length = n at *
        clear hprev
        go_wp2_with fail
        go_round
        case rel => exact ⟨i + 1, by omega, by go_num, trivial, hprev2⟩
        case measure => simp [intOf]; omega
      · have hd : Hid (decide ((∀ s ∈ l, s.body.length ≤ 300) ∧ l.length ≤ most) = false) := decide_eq_false fun h => hn (h.1 _ (List.getElem_mem hlt))
        generalize l[i].body.length = n at *
        clear hprev
        go_wp2_with fail
        go_ret
        exact ⟨by rw [hd.out]; rfl, rfl⟩
    · obtain rfl : i = l.length := by omega
      have hall : ∀ s ∈ l, s.body.length ≤ 300 := fun s hs => by
        obtain ⟨j, hj, rfl⟩ := List.getElem_of_mem hs
        exact hprev.out j hj hj
      have hd : Hid (decide ((∀ s ∈ l, s.body.length ≤ 300) ∧ l.length ≤ most) = decide (l.length ≤ most)) := by
        by_cases hm : l.length ≤ most
        · rw [decide_eq_true hm]; exact decide_eq_true ⟨hall, hm⟩
        · rw [decide_eq_false hm]; exact decide_eq_false fun h => hm h.2
      clear hprev hall hS
      go_wp2_with fail
      go_ret
      exact ⟨by rw [hd.out]; rfl, rfl⟩
attribute [local go_sem ↓] run_str'
set_option maxRecDepth 20000 in
set_option maxHeartbeats 4000000 in
theorem ssame_true (kd pl : Int) (la : Bool) (A A2 : Option Addr) (l : List UInt8) (c c2 : Nat) (w : World) (hB : Bts w A l) (hB2 : Bts w A2 l) :
    Calls Try.prog 61 #[.agg #[.int .i64 kd, .int .i64 pl, .bool la, .slice A l.length c], .agg #[.int .i64 kd, .int .i64 pl, .bool la, .slice A2 l.length c2]] w fun e w' => e = .returned (.bool true) ∧ Below w.heap.size w w' := by
  have hb0 : Below w.heap.size w ((w.alloc (.cells #[.int .i64 kd, .int .i64 pl, .bool la, .slice A l.length c] 81)).alloc (.cells #[.int .i64 kd, .int .i64 pl, .bool la, .slice A2 l.length c2] 81)) := ((Below.refl _ _).alloc (Nat.le_refl _) _).alloc (by simp) _
  have h1 := hB.below hb0
  have h2 := hB2.below hb0
  clear hB hB2
  go_enter Try.func61, Try.ntmps61
  go_wp2_with fail
  go_ret
  exact ⟨by simp, hb0⟩
/-- the same, one by one: what the walk of segs keeps -/
structure SgP (w0 : World) (A A2 : Option Addr) (l m : List SegV) (w : World) : Prop where
  s1 : Sgs w A l
  s2 : Sgs w A2 m
  b1 : ∀ s ∈ l, Bts w s.A s.body
  b2 : ∀ s ∈ m, Bts w s.A s.body
  wh : Below w0.heap.size w0 w
theorem SgP.keep {w0 w w' : World} {A A2 : Option Addr} {l m : List SegV} (h : SgP w0 A A2 l m w) (hb : Below w.heap.size w w') : SgP w0 A A2 l m w' :=
  ⟨h.s1.below hb, h.s2.below hb, fun s hs => (h.b1 s hs).below hb, fun s hs => (h.b2 s hs).below hb, h.wh.trans (hb.mono h.wh.size)⟩
theorem same_vals (s1 s2 : SegV) (h : s1.key = s2.key) (w : World) (hB : Bts w s1.A s1.body) (hB2 : Bts w s2.A s2.body) :
    Calls Try.prog 61 #[.agg #[.int .i64 s1.kind, .int .i64 s1.place, .bool s1.last, .slice s1.A s1.body.length s1.c], .agg #[.int .i64 s2.kind, .int .i64 s2.place, .bool s2.last, .slice s2.A s2.body.length s2.c]] w fun e w' => e = .returned (.bool true) ∧ Below w.heap.size w w' := by
  obtain ⟨k1, p1, l1, A1, b1, c1⟩ := s1
  obtain ⟨k2, p2, l2, A2, b2, c2⟩ := s2
  simp only [SegV.key, Prod.mk.injEq] at h
  obtain ⟨rfl, rfl, rfl, rfl⟩ := h
  exact ssame_true k1 p1 l1 A1 A2 b1 c1 c2 w hB hB2
theorem key_at (l m : List SegV) (h : Hid (l.map SegV.key = m.map SegV.key)) (i : Nat) (hi : i < l.length) (hi2 : i < m.length) : l[i].key = m[i].key := by
  have h2 := congrArg (fun x => x[i]?) h.out
  simp only [List.getElem?_map, List.getElem?_eq_getElem hi, List.getElem?_eq_getElem hi2, Option.map_some, Option.some.injEq] at h2
  exact h2
set_option maxRecDepth 20000 in
set_option maxHeartbeats 8000000 in
theorem segs_true (A A2 : Option Addr) (l m : List SegV) (c c2 : Nat) (w : World) (hl : l.length ≤ 140737488355328) (hk : Hid (l.map SegV.key = m.map SegV.key)) (hS : SgP w A A2 l m w) :
    Calls Try.prog 56 #[.slice A l.length c, .slice A2 m.length c2] w fun e w' => e = .returned (.bool true) ∧ Below w.heap.size w w' := by
  have hlm : m.length = l.length := by
    have := congrArg List.length hk.out
    simpa using this.symm
  have hlmI : (m.length : Int) = (l.length : Int) := by omega
  have HS := Lib.hid hS
  clear hS
  go_enter Try.func56, Try.ntmps56
  go_wp2_with fail
  go_loopw [5] (fun x wr => ∃ i : Nat, i ≤ l.length ∧ x = .int .i64 i ∧ Hid (SgP w A A2 l m wr)) (fun x _ => l.length - (intOf x).toNat)
  case atStart => exact ⟨0, by omega, rfl, HS⟩
  case round =>
    obtain ⟨i, hi, rfl, hP⟩ := hrel
    by_cases hlt : i < l.length
    · have hlt2 : i < m.length := by omega
      obtain ⟨b, o, rfl, _⟩ := hP.out.s1.some (by omega)
      obtain ⟨b2, o2, rfl, _⟩ := hP.out.s2.some (by omega)
      have HL := Lib.hid hlm
      have hmI : (i : Int) < (m.length : Int) := by omega
      clear hlm hlmI
      go_wp2_with fail
      refine wp_region_till 10 (fun w' => SgP w (some ⟨b, o, none⟩) (some ⟨b2, o2, none⟩) l m w') (fun _ => True) (by kernel_rfl) ((SgP.keep hP.out (Below.refl _ _).drew)) trivial ?_
      show Go_ _ _ _ _ _ _ _ _ _ _ (World.drew _)
      refine Go_.take (i := 0) (oi := ⟨some 17, Op.move (Operand.tmp 0), 75, _, _, none⟩) (v := ?_) rfl (by kernel_rfl) (by kernel_rfl) (by kernel_rfl) rfl (fun _ _ _ h => h) (Or.inl ⟨by rfl, ?_⟩) ?_
      rotate_left; · intro w0 _; go_simp; try with_reducible rfl
      try simp only [Act.put, List.setIfInBounds_toArray, List.set_cons_zero, List.set_cons_succ]
      refine Go_.take (i := 1) (oi := ⟨some 18, Op.move (Operand.tmp 5), 3, _, _, none⟩) (v := ?_) rfl (by kernel_rfl) (by kernel_rfl) (by kernel_rfl) rfl (fun _ _ _ h => h) (Or.inl ⟨by rfl, ?_⟩) ?_
      rotate_left; · intro w0 _; go_simp; try with_reducible rfl
      try simp only [Act.put, List.setIfInBounds_toArray, List.set_cons_zero, List.set_cons_succ]
      refine Go_.take (i := 2) (oi := ⟨some 19, Op.indexAddr 75 (Operand.tmp 17) (Operand.tmp 18), 0, _, _, none⟩) (v := ?_) rfl (by kernel_rfl) (by kernel_rfl) (by kernel_rfl) rfl (fun _ _ _ h => h) (Or.inl ⟨by rfl, ?_⟩) ?_
      rotate_left; · intro w0 _; go_simp; try with_reducible rfl
      try simp only [Act.put, List.setIfInBounds_toArray, List.set_cons_zero, List.set_cons_succ]
      refine Go_.take (i := 3) (oi := ⟨some 20, Op.load 81 (Operand.tmp 19), 81, _, _, none⟩) (v := ?_) rfl (by kernel_rfl) (by kernel_rfl) (by kernel_rfl) rfl (fun _ _ _ h => h) (Or.inl ⟨by rfl, ?_⟩) ?_
      rotate_left; · intro w0 hS; have hc1 := Sgs.cells (SgP.s1 hS) i hlt; have hc2 := Sgs.cells (SgP.s2 hS) i hlt2; go_simp; try with_reducible rfl
      try simp only [Act.put, List.setIfInBounds_toArray, List.set_cons_zero, List.set_cons_succ]
      refine Go_.take (i := 4) (oi := ⟨some 21, Op.move (Operand.tmp 1), 75, _, _, none⟩) (v := ?_) rfl (by kernel_rfl) (by kernel_rfl) (by kernel_rfl) rfl (fun _ _ _ h => h) (Or.inl ⟨by rfl, ?_⟩) ?_
      rotate_left; · intro w0 _; go_simp; try with_reducible rfl
      try simp only [Act.put, List.setIfInBounds_toArray, List.set_cons_zero, List.set_cons_succ]
      refine Go_.take (i := 5) (oi := ⟨some 22, Op.move (Operand.tmp 5), 3, _, _, none⟩) (v := ?_) rfl (by kernel_rfl) (by kernel_rfl) (by kernel_rfl) rfl (fun _ _ _ h => h) (Or.inl ⟨by rfl, ?_⟩) ?_
      rotate_left; · intro w0 _; go_simp; try with_reducible rfl
      try simp only [Act.put, List.setIfInBounds_toArray, List.set_cons_zero, List.set_cons_succ]
      refine Go_.take (i := 6) (oi := ⟨some 23, Op.indexAddr 75 (Operand.tmp 21) (Operand.tmp 22), 0, _, _, none⟩) (v := ?_) rfl (by kernel_rfl) (by kernel_rfl) (by kernel_rfl) rfl (fun _ _ _ h => h) (Or.inl ⟨by rfl, ?_⟩) ?_
      rotate_left; · intro w0 _; go_simp; try with_reducible rfl
      try simp only [Act.put, List.setIfInBounds_toArray, List.set_cons_zero, List.set_cons_succ]
      refine Go_.take (i := 7) (oi := ⟨some 24, Op.load 81 (Operand.tmp 23), 81, _, _, none⟩) (v := ?_) rfl (by kernel_rfl) (by kernel_rfl) (by kernel_rfl) rfl (fun _ _ _ h => h) (Or.inl ⟨by rfl, ?_⟩) ?_
      rotate_left; · intro w0 hS; have hc1 := Sgs.cells (SgP.s1 hS) i hlt; have hc2 := Sgs.cells (SgP.s2 hS) i hlt2; go_simp; try with_reducible rfl
      try simp only [Act.put, List.setIfInBounds_toArray, List.set_cons_zero, List.set_cons_succ]
      refine Go_.step (i := 8) (o := ⟨some 25, Op.call { callee := Callee.value (Operand.func 61), args := #[Operand.tmp 20, Operand.tmp 24], argTypes := #[81, 81] }, 4, _, _, none⟩) (by kernel_rfl) rfl (fun K hT hK => ?_)
      replace hT := hT.1
      rw [if_pos (by rfl)]
      go_simp
      refine (same_vals l[i] m[i] (key_at l m hk i hlt hlt2) _ (hT.b1 _ (List.getElem_mem hlt)) (hT.b2 _ (List.getElem_mem hlt2))).mono ?_
      rintro e w8 ⟨rfl, hb8⟩
      refine hK.out _ _ (Till.of (SgP.keep hT hb8)) ?_
      clear hT hK K
      refine Go_.take (i := 9) (oi := ⟨some 26, Op.unOp UnOp.not 4 (Operand.tmp 25), 4, _, _, none⟩) (v := ?_) rfl (by kernel_rfl) (by kernel_rfl) (by kernel_rfl) rfl (fun _ _ _ h => h) (Or.inl ⟨by rfl, ?_⟩) ?_
      rotate_left; · intro w0 _; go_simp; try with_reducible rfl
      try simp only [Act.put, List.setIfInBounds_toArray, List.set_cons_zero, List.set_cons_succ]
      refine Go_.doneA (by kernel_rfl) (fun hA => ?_)
      go_wp2_with fail
      go_round
      case rel => exact ⟨i + 1, by omega, by go_num, Lib.hid hA⟩
      case measure => simp [intOf]; omega
    · obtain rfl : i = l.length := by omega
      go_wp2_with fail
      go_ret
      exact ⟨rfl, hP.out.wh⟩
end Go.Proofs.Ytcdklmicbbcknaa

namespace Go.Proofs.Ytcdklmicbbcknaa
open Go Go.RowKit
/-- a segment that may be, as data -/
structure SegD where
  (y : UInt8) (P : Nat) (body : List UInt8)
def SegD.key (s : SegD) : Int × Int × Bool × List UInt8 := ((s.y.toNat : Int), (s.P : Int), decide (s.y.toNat = 3), s.body)
def rowY (kd : Int) : UInt8 := if bits .and .i64 kd 1 = 0 then 2 else 1
def rowH (l : List SegV) : List SegD := l.mapIdx fun i s => ⟨rowY s.kind, i, s.body⟩
def rowD (l : List SegV) : List SegD := rowH l ++ [⟨3, l.length, [122]⟩]
theorem rowH_len (l : List SegV) : (rowH l).length = l.length := by simp [rowH]
theorem rowD_len (l : List SegV) : (rowD l).length = l.length + 1 := by simp [rowD, rowH_len]
theorem rowH_take (l : List SegV) (i : Nat) (hi : i < l.length) : (rowH l).take (i + 1) = (rowH l).take i ++ [⟨rowY l[i].kind, i, l[i].body⟩] := by
  rw [List.take_succ_eq_append_getElem (by rw [rowH_len]; exact hi)]
  simp [rowH]
theorem Bts.grown {w w' : World} {A : Option Addr} {l : List UInt8} {row : Option Nat} (h : Bts w A l) (hg : w.grownBy w' row) (hne : ∀ b o, A = some ⟨b, o, none⟩ → b < w.heap.size → some b ≠ row) : Bts w' A l := fun h0 => by
  obtain ⟨b, o, e, hlt, hc⟩ := h h0
  exact ⟨b, o, e, Nat.lt_of_lt_of_le hlt hg.size, fun j hj => (World.cell?_of_block (hg.block b hlt (hne b o e hlt))).trans (hc j hj)⟩
set_option maxRecDepth 20000 in
set_option maxHeartbeats 8000000 in
theorem row_any (A : Option Addr) (l : List SegV) (c : Nat) (w : World) (hl : l.length ≤ 1000) (hS : Sgs w A l) (hB : ∀ s ∈ l, Bts w s.A s.body) :
    Calls Try.prog 53 #[.slice A l.length c] w fun e w' => ∃ A' c' r, Hid (r.map SegV.key = (rowD l).map SegD.key) ∧ e = .returned (.slice A' r.length c') ∧ OwnS w' w.heap.size A' c' r ∧ (∀ s ∈ r, Bts w' s.A s.body) ∧ Below w.heap.size w w' := by
  have HB := Lib.hid hB
  clear hB
  go_enter Try.func53, Try.ntmps53
  go_wp2_with fail
  go_loopw [3, 4] (fun v x wr => ∃ (i : Nat) (A2 : Option Addr) (c2 : Nat) (r : List SegV), i ≤ l.length ∧ r.length = i ∧ v = .slice A2 r.length c2 ∧ x = .int .i64 i ∧ Hid (r.map SegV.key = ((rowH l).take i).map SegD.key) ∧ Hid (∀ s ∈ r, Bts w s.A s.body) ∧ OwnS wr w.heap.size A2 c2 r ∧ Below w.heap.size w wr) (fun _ x _ => l.length - (intOf x).toNat)
  case atStart => exact ⟨0, none, 0, [], by omega, rfl, rfl, rfl, Lib.hid (by simp), Lib.hid (by simp), OwnS.nil _ _, Below.refl _ _⟩
  case round =>
    obtain ⟨i, A2, c2, r, hi, hri, rfl, rfl, hkey, hBr, hO, hb⟩ := hrel
    by_cases hlt : i < l.length
    · have hSr := hS.below hb
      obtain ⟨b, o, rfl, _⟩ := hSr.some (by omega)
      have hcs := hSr.cells i hlt
      have hBi : Hid (Bts w l[i].A l[i].body) := HB.out _ (List.getElem_mem hlt)
      have hkt := Lib.hid (rowH_take l i hlt)
      have HS := Lib.hid hS
      have HRI := Lib.hid hri
      have hrl : r.length ≤ 1000 := by omega
      generalize l[i] = s at *
      clear hS hri hSr
      by_cases hbt : bits .and .i64 s.kind 1 = 0
      case' pos => obtain ⟨Y, hY, hYv⟩ : ∃ Y : Int, Hid (Y = 2) ∧ Hid (Y = ((rowY s.kind).toNat : Int) ∧ rowY s.kind ≠ 3) := ⟨_, rfl, by rw [rowY, if_pos hbt]; exact ⟨rfl, by decide⟩⟩
      case' neg => 
        obtain ⟨Y, hY, hYv⟩ : ∃ Y : Int, Hid (Y = 1) ∧ Hid (Y = ((rowY s.kind).toNat : Int) ∧ rowY s.kind ≠ 3) := ⟨_, rfl, by rw [rowY, if_neg hbt]; exact ⟨rfl, by decide⟩⟩
        have hbf : (bits .and .i64 s.kind 1 == 0) = false := beq_eq_false_iff_ne.2 hbt
      all_goals (
        have hb2 : Below wr.heap.size wr (wr.alloc (.cells #[.int .i64 Y, .int .i64 i, .bool false, .slice s.A s.body.length s.c] 81)) := (Below.refl _ _).alloc (Nat.le_refl _) _
        have hO2 := hO.below hb2
        have hSg : Sgs (wr.alloc (.cells #[.int .i64 Y, .int .i64 i, .bool false, .slice s.A s.body.length s.c] 81)) (some ⟨wr.heap.size, 0, none⟩) [⟨Y, i, false, s.A, s.body, s.c⟩] := Sgs.of_holds (t := 81) (Holds.newAt _ 81 _ rfl)
        have hbb := hb.trans (hb2.mono hb.size)
        have hsz := hbb.size
        rw [hY.out] at hO2 hSg hbb hsz
        clear hO hb hb2
        go_wp2_with (at_builtin; refine wpList_appS rfl (.tmp 19) (.tmp 28) rfl (by rfl) hO2 (by rfl) hSg (by simp; omega) hsz ?_; intro A3 c3 r3 w3 hr3 ho3 hg3 ha3)
        go_round
        case rel =>
          have hr3l : r3.length = i + 1 := by rw [hr3.out, List.length_append, HRI.out]; rfl
          refine ⟨i + 1, A3, c3, r3, by omega, hr3l, rfl, by go_num, ?_, ?_, ho3, hbb.grown hg3 hbb.size (fun k hk => (hO2.lt k hk).1)⟩
          · rw [hr3.out, hkt.out, List.map_append, List.map_append, hkey.out]
            refine Lib.hid ?_
            congr 1
            simp only [List.map_cons, List.map_nil, SegV.key, SegD.key, List.cons.injEq, and_true, Prod.mk.injEq, true_and]
            rw [← hY.out]
            refine ⟨hYv.out.1, ?_⟩
            symm
            refine decide_eq_false fun h => hYv.out.2 ?_
            exact UInt8.toNat_inj.1 h
          · refine Lib.hid fun s' hs' => ?_
            rw [hr3.out] at hs'
            rcases List.mem_append.1 hs' with h1 | h1
            · exact hBr.out s' h1
            · obtain rfl := List.mem_singleton.1 h1
              exact hBi.out
        case measure => simp [intOf]; omega)
    · obtain rfl : i = l.length := by omega
      have kc : (convert 24 24 (.slice (some ⟨wr.heap.size, 0, none⟩) 1 1)).run Try.prog (wr.alloc (.cells #[.int .u8 122] 5)) = .ok (.slice (some ⟨wr.heap.size, 0, none⟩) 1 1) (wr.alloc (.cells #[.int .u8 122] 5 (1, 2))) := Go.Joins.run_convert_bytes_const_at (P := Try.prog) wr 24 5 #[.int .u8 122] 1 1 wr.heap.size rfl Try.underlying24 Try.underlying5
      have hb1 : Below wr.heap.size wr (wr.alloc (.cells #[.int .u8 122] 5 (1, 2))) := (Below.refl _ _).alloc (Nat.le_refl _) _
      have hz1 : Bts (wr.alloc (.cells #[.int .u8 122] 5 (1, 2))) (some ⟨wr.heap.size, 0, none⟩) [122] := bts_lit [122] (1, 2) _ rfl
      have hz2 := Lib.hid (hz1.alloc (.cells #[.int .i64 3, .int .i64 l.length, .bool true, .slice (some ⟨wr.heap.size, 0, none⟩) 1 1] 81))
      have hb2 := hb1.alloc (by simp) (.cells #[.int .i64 3, .int .i64 l.length, .bool true, .slice (some ⟨wr.heap.size, 0, none⟩) 1 1] 81)
      have hbb := hb.trans (hb2.mono hb.size)
      have hO2 := hO.below hb2
      have hSg : Sgs ((wr.alloc (.cells #[.int .u8 122] 5 (1, 2))).alloc (.cells #[.int .i64 3, .int .i64 l.length, .bool true, .slice (some ⟨wr.heap.size, 0, none⟩) 1 1] 81)) (some ⟨wr.heap.size + 1, 0, none⟩) [⟨3, l.length, true, some ⟨wr.heap.size, 0, none⟩, [122], 1⟩] := Sgs.of_holds (t := 81) (Holds.newAt _ 81 _ (by simp))
      have hsz := hbb.size
      have hne := Lib.hid hO.lt
      have HRI := Lib.hid hri
      have hriI : (r.length : Int) = (l.length : Int) := by omega
      clear hO hb hb1 hz1 hS hri
      go_wp2_with (at_builtin; refine wpList_appS rfl (.tmp 30) (.tmp 36) rfl (by rfl) hO2 (by rfl) hSg (by simp; omega) hsz ?_; intro A3 c3 r3 w3 hr3 ho3 hg3 ha3)
      have hbf := hbb.grown hg3 hbb.size (fun k hk => (hO2.lt k hk).1)
      go_ret
      refine ⟨A3, c3, r3, Lib.hid ?_, rfl, ho3, fun s hs => ?_, hbf⟩
      · rw [hr3.out, rowD, List.map_append, List.map_append, hkey.out, List.take_of_length_le (by rw [rowH_len]; exact Nat.le_refl _)]
        rfl
      · rw [hr3.out] at hs
        rcases List.mem_append.1 hs with h1 | h1
        · exact (hBr.out s h1).below hbf
        · obtain rfl := List.mem_singleton.1 h1
          refine hz2.out.grown hg3 (fun b o e _ hbk => ?_)
          injection e with e
          injection e with e1 _
          have := (hne.out b hbk.symm).2
          omega
end Go.Proofs.Ytcdklmicbbcknaa
