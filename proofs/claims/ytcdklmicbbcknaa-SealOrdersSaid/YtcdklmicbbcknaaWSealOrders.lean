/-
  steamerlaw17.SealOrders: a walk of its text (printed by sealorders.py).
-/
import Derived.Test.YtcdklmicbbcknaaSo
import Derived.Test.YtcdklmicbbcknaaOs
namespace Go.Proofs.Ytcdklmicbbcknaa
open Go Go.RowKit
set_option linter.unusedSimpArgs false
theorem Sgs.cells0 {w : World} {g : Nat} {l : List SegV} (h : Sgs w (Option.some ⟨g, 0, none⟩) l) (j : Nat) (hj : j < l.length) :
    w.cell? ⟨g, j * 4, none⟩ = Option.some (.int .i64 l[j].kind) ∧ w.cell? ⟨g, j * 4 + 1, none⟩ = Option.some (.int .i64 l[j].place) ∧ w.cell? ⟨g, j * 4 + 2, none⟩ = Option.some (.bool l[j].last) ∧ w.cell? ⟨g, j * 4 + 3, none⟩ = Option.some (.slice l[j].A l[j].body.length l[j].c) := by
  have := h.cells j hj
  simpa using this
set_option maxRecDepth 20000 in
set_option maxHeartbeats 16000000 in
theorem sod_0 (k : K8) (A : Option Addr) (l : List SegV) (c : Nat) (wh how : Int) (wi : Nat) (w : World) (hl1 : 1 ≤ l.length) (hl6 : l.length ≤ 6) (h300 : Hid (∀ s ∈ l, s.body.length ≤ 300)) (hS : Sgs w A l) (hBl : Hid (∀ s ∈ l, Bts w s.A s.body)) (hwi : wi < l.length) (hwh : (IntKind.u64.wrap wh).tmod (l.length : Int) = (wi : Int)) (hhow : (IntKind.u64.wrap how).tmod 3 = 0) :
    Calls Try.prog 21 #[.agg #[.int .u32 (W k.k0), .int .u32 (W k.k1), .int .u32 (W k.k2), .int .u32 (W k.k3), .int .u32 (W k.k4), .int .u32 (W k.k5), .int .u32 (W k.k6), .int .u32 (W k.k7)], .slice A l.length c, .int .i64 wh, .int .i64 how] w fun e w' => e = .returned (.bool true) ∧ Below w.heap.size w w' := by
  have hfew : Hid (decide ((∀ s ∈ l, s.body.length ≤ 300) ∧ l.length ≤ 6) = true) := decide_eq_true ⟨h300.out, hl6⟩
  have hl1I : ¬ ((l.length : Int) < 1) := by omega
  have hl0I : ¬ (l.length : Int) = 0 := by omega
  have hwm : IntKind.u64.wrap (l.length : Int) = (l.length : Int) := by simp [IntKind.wrap, IntKind.bits, IntKind.signed]; omega
  have hw64 : wrap64 (wi : Int) = (wi : Int) := by simp [wrap64]; omega
  have hSA := hS.below ((Below.refl w.heap.size w).alloc (Nat.le_refl _) (.cells #[.int .u32 (W k.k0), .int .u32 (W k.k1), .int .u32 (W k.k2), .int .u32 (W k.k3), .int .u32 (W k.k4), .int .u32 (W k.k5), .int .u32 (W k.k6), .int .u32 (W k.k7)] 23))
  have hb2 : Below w.heap.size w ((w.alloc (.cells #[.int .u32 (W k.k0), .int .u32 (W k.k1), .int .u32 (W k.k2), .int .u32 (W k.k3), .int .u32 (W k.k4), .int .u32 (W k.k5), .int .u32 (W k.k6), .int .u32 (W k.k7)] 23)).alloc (.cells #[.int .u32 (W k.k0), .int .u32 (W k.k1), .int .u32 (W k.k2), .int .u32 (W k.k3), .int .u32 (W k.k4), .int .u32 (W k.k5), .int .u32 (W k.k6), .int .u32 (W k.k7)] 28)) := ((Below.refl _ _).alloc (Nat.le_refl _) _).alloc (by simp) _
  have hk2 := Holds.newAt (w.alloc (.cells #[.int .u32 (W k.k0), .int .u32 (W k.k1), .int .u32 (W k.k2), .int .u32 (W k.k3), .int .u32 (W k.k4), .int .u32 (W k.k5), .int .u32 (W k.k6), .int .u32 (W k.k7)] 23)) 28 [.int .u32 (W k.k0), .int .u32 (W k.k1), .int .u32 (W k.k2), .int .u32 (W k.k3), .int .u32 (W k.k4), .int .u32 (W k.k5), .int .u32 (W k.k6), .int .u32 (W k.k7)] (n := w.heap.size + 1) (by simp)
  have HS2 := Lib.hid (And.intro (hS.below hb2) (And.intro (fun s (hs : s ∈ l) => (hBl.out s hs).below hb2) (And.intro hk2 hb2)))
  clear hb2 hk2
  go_enter Try.func21, Try.ntmps21
  go_wp2_with fail
  refine (few_any A l c 6 _ (by omega) hSA).mono ?_
  rintro e w9 ⟨rfl, rfl⟩
  rw [hfew.out]
  clear hSA
  go_wp2_with fail
  refine (so_row A l c _ (by omega) HS2.out.1 HS2.out.2.1).mono ?_
  rintro e w1 ⟨g, cr, r, hkr, hrl, rfl, hcr, hsr, hbr, hb1⟩
  have HB : Hid (OrB w w1 g k r) := Lib.hid ⟨HS2.out.2.2.1.below hb1 HS2.out.2.2.1.lt, hsr, hbr, HS2.out.2.2.2.trans (hb1.mono HS2.out.2.2.2.size)⟩
  have hz1 : w.heap.size ≤ w1.heap.size := HB.out.wh.size
  clear hsr hbr hb1 HS2
  have hc0 : ¬ cr = 0 := by omega
  have hwc : (wi : Int) ≤ (cr : Int) := by omega
  have hO0 : OwnS (w1.alloc (.cells #[] 81)) w1.heap.size (some ⟨w1.heap.size, 0, none⟩) 0 [] := OwnS.made w1 w1.heap.size (Nat.le_refl _) [] (by simp)
  have hb10 : Below w1.heap.size w1 (w1.alloc (.cells #[] 81)) := (Below.refl _ _).alloc (Nat.le_refl _) _
  have hSg0 : Sgs (w1.alloc (.cells #[] 81)) (some ⟨g, 0, none⟩) (r.take wi) := (HB.out.sr.take wi).below hb10
  have hrt : (r.take wi).length = wi := by rw [List.length_take, hrl.out]; omega
  have hsz0 := hb10.size
  go_wp2_with (at_builtin; refine wpList_appN rfl (.tmp 41) (.tmp 44) rfl (by rfl) rfl hO0 (by rfl) hrt hSg0 (by simp; omega) hsz0 ?_; intro A2 c2 o2 w2 ho2 hO2 hg2; have hb2 : Below w1.heap.size w1 w2 := hb10.grown hg2 hsz0 (fun q hq => by have e : w1.heap.size = q := Option.some.inj hq; omega); have HO2 : Hid (o2.length = wi) := Lib.hid (by rw [ho2.out]; simpa using hrt); have hz2 := hb2.size; clear hO0 hb10 hSg0 hsz0 hg2 hrt hc0 hwc)
  have hq0 : wi < r.length := by rw [hrl.out]; omega
  have hq1 : wi + 1 < r.length := by rw [hrl.out]; omega
  have hd0 : wi < (rowD l).length := by rw [rowD_len]; omega
  have hd1 : wi + 1 < (rowD l).length := by rw [rowD_len]; omega
  have hz2d : w1.heap.size ≤ (w2.drew.alloc (.cells #[.int .i64 r[wi + 1].kind, .int .i64 r[wi + 1].place, .bool r[wi + 1].last, .slice r[wi + 1].A r[wi + 1].body.length r[wi + 1].c, .int .i64 r[wi].kind, .int .i64 r[wi].place, .bool r[wi].last, .slice r[wi].A r[wi].body.length r[wi].c] 81)).heap.size := by simp; omega
  have hwI1 : (wi : Int) < (l.length : Int) + 1 := by omega
  have hwI0 : (wi : Int) < (l.length : Int) := by omega
  have hwx1 : IntKind.i64.wrap ((wi : Int) + 1) = (wi : Int) + 1 := by simp [IntKind.wrap, IntKind.bits, IntKind.signed]; omega
  have hwx2 : IntKind.i64.wrap ((wi : Int) + 2) = (wi : Int) + 2 := by simp [IntKind.wrap, IntKind.bits, IntKind.signed]; omega
  have hwt1 : ((wi : Int) + 1).toNat = wi + 1 := by omega
  have hwt2 : ((wi : Int) + 2).toNat = wi + 2 := by omega
  have hwb1 : 0 ≤ (wi : Int) + 1 ∧ (wi : Int) + 1 ≤ (l.length : Int) + 1 := by omega
  have hwb2 : 0 ≤ (wi : Int) + 2 ∧ (wi : Int) + 2 ≤ (l.length : Int) + 1 := by omega
  have hwb3 : 0 ≤ (wi : Int) + 1 ∧ (wi : Int) + 1 < (l.length : Int) + 1 := by omega
  have hbC : Below w2.drew.heap.size w2.drew (w2.drew.alloc (.cells #[.int .i64 r[wi + 1].kind, .int .i64 r[wi + 1].place, .bool r[wi + 1].last, .slice r[wi + 1].A r[wi + 1].body.length r[wi + 1].c, .int .i64 r[wi].kind, .int .i64 r[wi].place, .bool r[wi].last, .slice r[wi].A r[wi].body.length r[wi].c] 81)) := (Below.refl _ _).alloc (Nat.le_refl _) _
  have hO2b : OwnS (w2.drew.alloc (.cells #[.int .i64 r[wi + 1].kind, .int .i64 r[wi + 1].place, .bool r[wi + 1].last, .slice r[wi + 1].A r[wi + 1].body.length r[wi + 1].c, .int .i64 r[wi].kind, .int .i64 r[wi].place, .bool r[wi].last, .slice r[wi].A r[wi].body.length r[wi].c] 81)) w1.heap.size A2 c2 o2 := hO2.drew.below hbC
  have hSg11 : Sgs (w2.drew.alloc (.cells #[.int .i64 r[wi + 1].kind, .int .i64 r[wi + 1].place, .bool r[wi + 1].last, .slice r[wi + 1].A r[wi + 1].body.length r[wi + 1].c, .int .i64 r[wi].kind, .int .i64 r[wi].place, .bool r[wi].last, .slice r[wi].A r[wi].body.length r[wi].c] 81)) (some ⟨w2.drew.heap.size, 0, none⟩) [r[wi + 1], r[wi]] := Sgs.of_holds (t := 81) (Holds.newAt _ 81 _ rfl)
  have hlen11 : o2.length + [r[wi + 1], r[wi]].length ≤ 1000000 := by rw [HO2.out]; simp; omega
  have hcw2 : (wi : Int) + 2 ≤ (cr : Int) := by omega
  have HB2 := Lib.hid hb2
  have HBC := Lib.hid hbC
  have HS11 := Lib.hid hSg11
  have HOB := Lib.hid hO2b
  clear hb2 hbC hSg11 hO2b
  by_cases hcw : cr = wi + 2
  · refine wp_region_till 18 (fun w' => Below w1.heap.size w1 w') (fun _ => True) (by kernel_rfl) (HB2.out.drew) trivial ?_
    show Go_ _ _ _ _ _ _ _ _ _ _ (World.drew _)
    refine Go_.take (i := 0) (oi := ⟨some 67, Op.move (Operand.tmp 12), 75, _, _, none⟩) (v := ?_) rfl (by kernel_rfl) (by kernel_rfl) (by kernel_rfl) rfl (fun _ _ _ h => h) (Or.inl ⟨by rfl, ?_⟩) ?_
    rotate_left; · intro w0 _; go_simp; try with_reducible rfl
    try simp only [Act.put, List.setIfInBounds_toArray, List.set_cons_zero, List.set_cons_succ]
    refine Go_.take (i := 1) (oi := ⟨some 68, Op.move (Operand.tmp 10), 75, _, _, none⟩) (v := ?_) rfl (by kernel_rfl) (by kernel_rfl) (by kernel_rfl) rfl (fun _ _ _ h => h) (Or.inl ⟨by rfl, ?_⟩) ?_
    rotate_left; · intro w0 _; go_simp; try with_reducible rfl
    try simp only [Act.put, List.setIfInBounds_toArray, List.set_cons_zero, List.set_cons_succ]
    refine Go_.take (i := 2) (oi := ⟨some 69, Op.move (Operand.tmp 11), 3, _, _, none⟩) (v := ?_) rfl (by kernel_rfl) (by kernel_rfl) (by kernel_rfl) rfl (fun _ _ _ h => h) (Or.inl ⟨by rfl, ?_⟩) ?_
    rotate_left; · intro w0 _; go_simp; try with_reducible rfl
    try simp only [Act.put, List.setIfInBounds_toArray, List.set_cons_zero, List.set_cons_succ]
    refine Go_.take (i := 3) (oi := ⟨some 70, Op.binOp BinOp.add 3 (Operand.tmp 69) (Operand.const (Value.int IntKind.i64 1)) 3, 3, _, _, none⟩) (v := ?_) rfl (by kernel_rfl) (by kernel_rfl) (by kernel_rfl) rfl (fun _ _ _ h => h) (Or.inl ⟨by rfl, ?_⟩) ?_
    rotate_left; · intro w0 _; go_simp; try with_reducible rfl
    try simp only [Act.put, List.setIfInBounds_toArray, List.set_cons_zero, List.set_cons_succ]
    refine Go_.take (i := 4) (oi := ⟨some 71, Op.indexAddr 75 (Operand.tmp 68) (Operand.tmp 70), 0, _, _, none⟩) (v := ?_) rfl (by kernel_rfl) (by kernel_rfl) (by kernel_rfl) rfl (fun _ _ _ h => h) (Or.inl ⟨by rfl, ?_⟩) ?_
    rotate_left; · intro w0 _; go_simp; try with_reducible rfl
    try simp only [Act.put, List.setIfInBounds_toArray, List.set_cons_zero, List.set_cons_succ]
    refine Go_.take (i := 5) (oi := ⟨some 72, Op.load 81 (Operand.tmp 71), 81, _, _, none⟩) (v := ?_) rfl (by kernel_rfl) (by kernel_rfl) (by kernel_rfl) rfl (fun _ _ _ h => h) (Or.inl ⟨by rfl, ?_⟩) ?_
    rotate_left; · intro w0 hS; have hsr0 := HB.out.sr.below hS; have hcA := hsr0.cells0 (wi + 1) hq1; have hcB := hsr0.cells0 wi hq0; go_simp; try with_reducible rfl
    try simp only [Act.put, List.setIfInBounds_toArray, List.set_cons_zero, List.set_cons_succ]
    refine Go_.take (i := 6) (oi := ⟨some 73, Op.move (Operand.tmp 10), 75, _, _, none⟩) (v := ?_) rfl (by kernel_rfl) (by kernel_rfl) (by kernel_rfl) rfl (fun _ _ _ h => h) (Or.inl ⟨by rfl, ?_⟩) ?_
    rotate_left; · intro w0 _; go_simp; try with_reducible rfl
    try simp only [Act.put, List.setIfInBounds_toArray, List.set_cons_zero, List.set_cons_succ]
    refine Go_.take (i := 7) (oi := ⟨some 74, Op.move (Operand.tmp 11), 3, _, _, none⟩) (v := ?_) rfl (by kernel_rfl) (by kernel_rfl) (by kernel_rfl) rfl (fun _ _ _ h => h) (Or.inl ⟨by rfl, ?_⟩) ?_
    rotate_left; · intro w0 _; go_simp; try with_reducible rfl
    try simp only [Act.put, List.setIfInBounds_toArray, List.set_cons_zero, List.set_cons_succ]
    refine Go_.take (i := 8) (oi := ⟨some 75, Op.indexAddr 75 (Operand.tmp 73) (Operand.tmp 74), 0, _, _, none⟩) (v := ?_) rfl (by kernel_rfl) (by kernel_rfl) (by kernel_rfl) rfl (fun _ _ _ h => h) (Or.inl ⟨by rfl, ?_⟩) ?_
    rotate_left; · intro w0 _; go_simp; try with_reducible rfl
    try simp only [Act.put, List.setIfInBounds_toArray, List.set_cons_zero, List.set_cons_succ]
    refine Go_.take (i := 9) (oi := ⟨some 76, Op.load 81 (Operand.tmp 75), 81, _, _, none⟩) (v := ?_) rfl (by kernel_rfl) (by kernel_rfl) (by kernel_rfl) rfl (fun _ _ _ h => h) (Or.inl ⟨by rfl, ?_⟩) ?_
    rotate_left; · intro w0 hS; have hsr0 := HB.out.sr.below hS; have hcA := hsr0.cells0 (wi + 1) hq1; have hcB := hsr0.cells0 wi hq0; go_simp; try with_reducible rfl
    try simp only [Act.put, List.setIfInBounds_toArray, List.set_cons_zero, List.set_cons_succ]
    refine Go_.take (i := 12) (oi := ⟨some 79, Op.move (Operand.tmp 10), 75, _, _, none⟩) (v := ?_) rfl (by kernel_rfl) (by kernel_rfl) (by kernel_rfl) rfl (fun _ _ _ h => h) (Or.inl ⟨by rfl, ?_⟩) ?_
    rotate_left; · intro w0 _; go_simp; try with_reducible rfl
    try simp only [Act.put, List.setIfInBounds_toArray, List.set_cons_zero, List.set_cons_succ]
    refine Go_.take (i := 13) (oi := ⟨some 80, Op.move (Operand.tmp 11), 3, _, _, none⟩) (v := ?_) rfl (by kernel_rfl) (by kernel_rfl) (by kernel_rfl) rfl (fun _ _ _ h => h) (Or.inl ⟨by rfl, ?_⟩) ?_
    rotate_left; · intro w0 _; go_simp; try with_reducible rfl
    try simp only [Act.put, List.setIfInBounds_toArray, List.set_cons_zero, List.set_cons_succ]
    refine Go_.take (i := 14) (oi := ⟨some 81, Op.binOp BinOp.add 3 (Operand.tmp 80) (Operand.const (Value.int IntKind.i64 2)) 3, 3, _, _, none⟩) (v := ?_) rfl (by kernel_rfl) (by kernel_rfl) (by kernel_rfl) rfl (fun _ _ _ h => h) (Or.inl ⟨by rfl, ?_⟩) ?_
    rotate_left; · intro w0 _; go_simp; try with_reducible rfl
    try simp only [Act.put, List.setIfInBounds_toArray, List.set_cons_zero, List.set_cons_succ]
    refine Go_.take (i := 15) (oi := ⟨some 82, Op.slice 75 (Operand.tmp 79) (some (Operand.tmp 81)) none none, 75, _, _, none⟩) (v := ?_) rfl (by kernel_rfl) (by kernel_rfl) (by kernel_rfl) rfl (fun _ _ _ h => h) (Or.inl ⟨by rfl, ?_⟩) ?_
    rotate_left; · intro w0 _; go_simp; try with_reducible rfl
    try simp only [Act.put, List.setIfInBounds_toArray, List.set_cons_zero, List.set_cons_succ]
    refine Go_.step (i := 10) (o := ⟨some 77, Op.buildSlice 75 2 #[(0, Operand.tmp 72), (1, Operand.tmp 76)], 75, _, _, none⟩) (by kernel_rfl) rfl (fun K hT hK => ?_)
    replace hT := hT.1
    rw [if_pos (by rfl)]
    go_simp
    refine hK.out _ _ (Till.of (hT.alloc hT.size _)) ?_
    clear hT hK K
    refine Go_.step (i := 11) (o := ⟨some 78, Op.call { callee := Callee.builtin Builtin.append, args := #[Operand.tmp 67, Operand.tmp 77], argTypes := #[75, 75] }, 75, _, _, none⟩) (by kernel_rfl) rfl (fun K hT hK => ?_)
    replace hT := hT.1
    rw [if_pos (by rfl)]
    refine wp_appK (.tmp 67) (.tmp 77) rfl (by rfl) rfl HOB.out (by rfl) rfl HS11.out hlen11 hz2d ?_
    intro A3 c3 o3 w3 ho3 hO3 _ hg3
    have hb3 := hT.grown hg3 hz2d (fun q hq => (HOB.out.lt q hq).1)
    have ho3l : o3.length ≤ 1000 := by rw [ho3.out, List.length_append, HO2.out]; simp; omega
    have hSg16 : Sgs w3 (some ⟨g, 0, none⟩) (r.drop (wi + 2)) := fun h0 => absurd h0 (by rw [List.length_drop, hrl.out]; omega)
    refine hK.out _ _ (Till.of hb3) ?_
    clear hT hK K
    refine Go_.step (i := 16) (o := ⟨some 83, Op.call { callee := Callee.builtin Builtin.append, args := #[Operand.tmp 78, Operand.tmp 82], argTypes := #[75, 75] }, 75, _, _, none⟩) (by kernel_rfl) rfl (fun K hT hK => ?_)
    replace hT := hT.1
    rw [if_pos (by rfl)]
    refine wp_appK (.tmp 78) (.tmp 82) rfl (by rfl) rfl hO3 (by rfl) (by rw [List.length_drop, hrl.out]; omega) hSg16 (by rw [List.length_drop, hrl.out]; omega) hb3.size ?_
    intro A4 c4 o4 w4 ho4 hO4 _ hg4
    have hb4 := hT.grown hg4 hb3.size (fun q hq => (hO3.lt q hq).1)
    refine hK.out _ _ (Till.of hb4) ?_
    clear hT hK K
    refine Go_.take (i := 17) (oi := ⟨some 12, Op.assign (Operand.tmp 83), 75, _, _, none⟩) (v := ?_) rfl (by kernel_rfl) (by kernel_rfl) (by kernel_rfl) rfl (fun _ _ _ h => h) (Or.inl ⟨by rfl, ?_⟩) ?_
    rotate_left; · intro w0 _; go_simp; try with_reducible rfl
    try simp only [Act.put, List.setIfInBounds_toArray, List.set_cons_zero, List.set_cons_succ]
    refine Go_.doneA (by kernel_rfl) (fun _ => ?_)
    have ho4e : o4 = r.take wi ++ [r[wi + 1], r[wi]] ++ r.drop (wi + 2) := by rw [ho4.out, ho3.out, ho2.out]; rfl
    obtain ⟨D, hD⟩ : ∃ D, Hid (D = (rowD l).take wi ++ [(rowD l)[wi + 1], (rowD l)[wi]] ++ (rowD l).drop (wi + 2)) := ⟨_, Lib.hid rfl⟩
    have hord := ord_0 l hl6 h300.out wi hwi hd0 hd1 D hD.out
    have hkey4 : Hid (o4.map SegV.key = D.map SegD.key) := by
      rw [ho4e, hD.out]
      exact Lib.hid (by
      have hka : (r[wi]).key = ((rowD l)[wi]).key := by
        have h2 := congrArg (fun x => x[wi]?) hkr.out
        simp only [List.getElem?_map, List.getElem?_eq_getElem hq0, List.getElem?_eq_getElem hd0, Option.map_some, Option.some.injEq] at h2
        exact h2
      have hkb : (r[wi + 1]).key = ((rowD l)[wi + 1]).key := by
        have h2 := congrArg (fun x => x[wi + 1]?) hkr.out
        simp only [List.getElem?_map, List.getElem?_eq_getElem hq1, List.getElem?_eq_getElem hd1, Option.map_some, Option.some.injEq] at h2
        exact h2
      simp only [List.map_append, List.map_take, List.map_drop, hkr.out, List.map_cons, List.map_nil, hka, hkb])
    have hbod4 : Hid (∀ s ∈ o4, Bts w1 s.A s.body) := Lib.hid (mem_map_key HB.out.br (fun s hs => by
      rw [ho4e] at hs
      simp only [List.mem_append, List.mem_cons, List.not_mem_nil, or_false] at hs
      rcases hs with (h | h) | h
      · exact List.mem_of_mem_take h
      · rcases h with rfl | rfl <;> exact List.getElem_mem _
      · exact List.mem_of_mem_drop h))
    have hlen4 : o4.length ≤ 9 := by
      rw [ho4e]
      simp only [List.length_append, List.length_take, List.length_drop, List.length_cons, List.length_nil]
      have := hrl.out
      omega
    have hDl : Hid (D.length = o4.length) := by
      have := congrArg List.length hkey4.out
      simp only [List.length_map] at this
      exact Lib.hid this.symm
    have HORD := Lib.hid hord
    have HE := Lib.hid ho4e
    clear hord ho4e ho4 ho2 hO2 hg4 hz2 hb3 hSg16 hO3 hg3 ho3 ho3l HS11 HOB HBC HB2
    go_wp2_with fail
    go_loopw [13, 14] (fun v x wr => ∃ (i : Nat) (A5 : Option Addr) (c5 : Nat) (rb : List UInt8), i ≤ o4.length ∧ v = .slice A5 rb.length c5 ∧ x = .int .i64 i ∧ Hid (rb = catS k (D.take i)) ∧ rb.length ≤ 345 * i ∧ Own wr w1.heap.size A5 c5 rb ∧ OwnS wr w1.heap.size A4 c4 o4 ∧ Below w1.heap.size w1 wr) (fun _ x _ => o4.length - (intOf x).toNat)
    case atStart => exact ⟨0, none, 0, [], by omega, rfl, rfl, Lib.hid (by simp [catS]), by simp, Own.nil _ _, hO4, hb4⟩
    case round =>
      clear hO4 hb4
      obtain ⟨i, A5, c5, rb, hi, rfl, rfl, hrb, hrbl, ho, hO, hb⟩ := hrel
      by_cases hlt : i < o4.length
      · have hiD : i < D.length := by rw [hDl.out]; exact hlt
        have hkd : Hid ((o4[i]).key = (D[i]).key) := by
          have h2 := congrArg (fun x => x[i]?) hkey4.out
          simp only [List.getElem?_map, List.getElem?_eq_getElem hlt, List.getElem?_eq_getElem hiD, Option.map_some, Option.some.injEq] at h2
          exact Lib.hid h2
        have hgd : Hid (D[i]).good := HORD.out.1.1 _ (List.getElem_mem hiD)
        have hBi : Hid (Bts w1 o4[i].A o4[i].body) := hbod4.out _ (List.getElem_mem hlt)
        have hct := Lib.hid (catS_take k D i hiD)
        have hbl := Lib.hid (bytes_len k D[i] hgd.out).1
        have hsg := hO.sgs
        obtain ⟨b4, f4, rfl, _⟩ := hsg.some (by omega)
        have HW := Lib.hid (And.intro hb hsg)
        clear hb hsg
        go_wp2_with fail
        refine wp_region_till 11 (fun w' => Below w1.heap.size w1 w' ∧ Sgs w' (some ⟨b4, f4, none⟩) o4) (fun _ => True) (by kernel_rfl) (⟨HW.out.1.drew, HW.out.2⟩) trivial ?_
        show Go_ _ _ _ _ _ _ _ _ _ _ (World.drew _)
        refine Go_.take (i := 0) (oi := ⟨some 99, Op.load 28 (Operand.tmp 9), 28, _, _, none⟩) (v := ?_) rfl (by kernel_rfl) (by kernel_rfl) (by kernel_rfl) rfl (fun _ _ _ h => h) (Or.inl ⟨by rfl, ?_⟩) ?_
        rotate_left; · intro w0 hS; obtain ⟨hbw, hsg⟩ : Below w1.heap.size w1 w0 ∧ Sgs w0 (some ⟨b4, f4, none⟩) o4 := hS; have h8 := (HB.out.kh.belowW hbw).eight; have hcs := hsg.cells i hlt; go_simp; try with_reducible rfl
        try simp only [Act.put, List.setIfInBounds_toArray, List.set_cons_zero, List.set_cons_succ]
        refine Go_.take (i := 1) (oi := ⟨some 100, Op.move (Operand.tmp 12), 75, _, _, none⟩) (v := ?_) rfl (by kernel_rfl) (by kernel_rfl) (by kernel_rfl) rfl (fun _ _ _ h => h) (Or.inl ⟨by rfl, ?_⟩) ?_
        rotate_left; · intro w0 _; go_simp; try with_reducible rfl
        try simp only [Act.put, List.setIfInBounds_toArray, List.set_cons_zero, List.set_cons_succ]
        refine Go_.take (i := 2) (oi := ⟨some 101, Op.move (Operand.tmp 14), 3, _, _, none⟩) (v := ?_) rfl (by kernel_rfl) (by kernel_rfl) (by kernel_rfl) rfl (fun _ _ _ h => h) (Or.inl ⟨by rfl, ?_⟩) ?_
        rotate_left; · intro w0 _; go_simp; try with_reducible rfl
        try simp only [Act.put, List.setIfInBounds_toArray, List.set_cons_zero, List.set_cons_succ]
        refine Go_.take (i := 3) (oi := ⟨some 102, Op.indexAddr 75 (Operand.tmp 100) (Operand.tmp 101), 0, _, _, none⟩) (v := ?_) rfl (by kernel_rfl) (by kernel_rfl) (by kernel_rfl) rfl (fun _ _ _ h => h) (Or.inl ⟨by rfl, ?_⟩) ?_
        rotate_left; · intro w0 _; go_simp; try with_reducible rfl
        try simp only [Act.put, List.setIfInBounds_toArray, List.set_cons_zero, List.set_cons_succ]
        refine Go_.take (i := 4) (oi := ⟨some 103, Op.load 81 (Operand.tmp 102), 81, _, _, none⟩) (v := ?_) rfl (by kernel_rfl) (by kernel_rfl) (by kernel_rfl) rfl (fun _ _ _ h => h) (Or.inl ⟨by rfl, ?_⟩) ?_
        rotate_left; · intro w0 hS; obtain ⟨hbw, hsg⟩ : Below w1.heap.size w1 w0 ∧ Sgs w0 (some ⟨b4, f4, none⟩) o4 := hS; have h8 := (HB.out.kh.belowW hbw).eight; have hcs := hsg.cells i hlt; go_simp; try with_reducible rfl
        try simp only [Act.put, List.setIfInBounds_toArray, List.set_cons_zero, List.set_cons_succ]
        refine Go_.step (i := 5) (o := ⟨some 104, Op.call { callee := Callee.value (Operand.func 54), args := #[Operand.tmp 99, Operand.tmp 103], argTypes := #[28, 81] }, 78, _, _, none⟩) (by kernel_rfl) rfl (fun K hT hK => ?_)
        replace hT := hT.1
        rw [if_pos (by rfl)]
        go_simp
        refine (so_put k o4[i] D[i] hkd hgd _ (hBi.out.below hT.1)).mono ?_
        rintro e w6 ⟨A6, c6, rp, hrp, rfl, hB6, hb6⟩
        refine hK.out _ _ (Till.of ⟨hT.1.trans (hb6.mono hT.1.size), hT.2.below hb6⟩) ?_
        clear hT hK K
        refine Go_.take (i := 6) (oi := ⟨some 98, Op.move (Operand.tmp 104), 78, _, _, none⟩) (v := ?_) rfl (by kernel_rfl) (by kernel_rfl) (by kernel_rfl) rfl (fun _ _ _ h => h) (Or.inl ⟨by rfl, ?_⟩) ?_
        rotate_left; · intro w0 _; go_simp; try with_reducible rfl
        try simp only [Act.put, List.setIfInBounds_toArray, List.set_cons_zero, List.set_cons_succ]
        refine Go_.take (i := 7) (oi := ⟨some 105, Op.extract (Operand.tmp 98) 0, 24, _, _, none⟩) (v := ?_) rfl (by kernel_rfl) (by kernel_rfl) (by kernel_rfl) rfl (fun _ _ _ h => h) (Or.inl ⟨by rfl, ?_⟩) ?_
        rotate_left; · intro w0 _; go_simp; try with_reducible rfl
        try simp only [Act.put, List.setIfInBounds_toArray, List.set_cons_zero, List.set_cons_succ]
        refine Go_.take (i := 8) (oi := ⟨some 106, Op.extract (Operand.tmp 98) 1, 3, _, _, none⟩) (v := ?_) rfl (by kernel_rfl) (by kernel_rfl) (by kernel_rfl) rfl (fun _ _ _ h => h) (Or.inl ⟨by rfl, ?_⟩) ?_
        rotate_left; · intro w0 _; go_simp; try with_reducible rfl
        try simp only [Act.put, List.setIfInBounds_toArray, List.set_cons_zero, List.set_cons_succ]
        refine Go_.take (i := 9) (oi := ⟨some 15, Op.assign (Operand.tmp 105), 24, _, _, none⟩) (v := ?_) rfl (by kernel_rfl) (by kernel_rfl) (by kernel_rfl) rfl (fun _ _ _ h => h) (Or.inl ⟨by rfl, ?_⟩) ?_
        rotate_left; · intro w0 _; go_simp; try with_reducible rfl
        try simp only [Act.put, List.setIfInBounds_toArray, List.set_cons_zero, List.set_cons_succ]
        refine Go_.take (i := 10) (oi := ⟨some 16, Op.assign (Operand.tmp 106), 3, _, _, none⟩) (v := ?_) rfl (by kernel_rfl) (by kernel_rfl) (by kernel_rfl) rfl (fun _ _ _ h => h) (Or.inl ⟨by rfl, ?_⟩) ?_
        rotate_left; · intro w0 _; go_simp; try with_reducible rfl
        try simp only [Act.put, List.setIfInBounds_toArray, List.set_cons_zero, List.set_cons_succ]
        refine Go_.doneA (by kernel_rfl) (fun hA => ?_)
        have ho6 := ho.drew.below hb6
        have hO6 := Lib.hid (hO.drew.below hb6)
        have hz6 := hA.1.size
        have HA := Lib.hid hA
        have hrpl : rp.length ≤ 345 := by rw [hrp.out]; exact hbl.out
        clear hb6 hA
        go_wp2_with (at_builtin; refine wpList_app rfl (.tmp 109) (.tmp 110) rfl (by rfl) ho6 (by rfl) hB6 (by omega) hz6 ?_; intro A7 c7 r7 w7 hr7 ho7 hg7 ha7)
        go_round
        case rel =>
          have hr7l : r7.length = rb.length + rp.length := by rw [hr7.out, List.length_append]
          refine ⟨i + 1, A7, c7, r7, by omega, rfl, by go_num, Lib.hid ?_, by omega, ho7, hO6.out.grownB ho6 hg7, HA.out.1.grown hg7 hz6 (fun q hq => (ho6.lt q hq).1)⟩
          rw [hr7.out, hct.out, hrb.out, hrp.out]
        case measure => simp [intOf]; omega
      · obtain rfl : i = o4.length := by omega
        have hrb2 : Hid (rb = catS k D) := by rw [hrb.out, ← hDl.out, List.take_length]; exact rfl
        have hBb := ho.bts
        have hcap := ho.cap
        have h8 := (HB.out.kh.belowW hb).eight
        have HW := Lib.hid hb
        clear ho hO hrb hb
        go_wp2_with fail
        refine (so_all k D (wi) (Lib.hid HORD.out.1) A5 rb c5 _ hrb2 (by omega) hcap hBb).mono ?_
        rintro e w8 ⟨A8, c8, segs, to, hks, hsl, rfl, hs8, hbs8, hb8⟩
        have HM := Lib.hid (And.intro hs8 (And.intro hbs8 (HW.out.trans (hb8.mono HW.out.size))))
        clear hs8 hbs8 hb8 h8 hBb HW
        have hnn : ((l.length : Int) + 1) = (l.length : Int) + 1 := rfl
        go_wp2_with fail
        refine (told17 _).mono ?_
        rintro e w9 ⟨rfl, hb9⟩
        have HP : Hid (SgP w9 A8 (some ⟨g, 0, none⟩) segs (r.take (wi)) w9 ∧ Below w1.heap.size w1 w9) := Lib.hid ⟨⟨HM.out.1.below hb9, (HB.out.sr.take (wi)).below (HM.out.2.2.trans (hb9.mono HM.out.2.2.size)), fun s hs => (HM.out.2.1 s hs).below hb9, fun s hs => (HB.out.br s (List.mem_of_mem_take hs)).below (HM.out.2.2.trans (hb9.mono HM.out.2.2.size)), Below.refl _ _⟩, HM.out.2.2.trans (hb9.mono HM.out.2.2.size)⟩
        have hkk : Hid (segs.map SegV.key = (r.take (wi)).map SegV.key) := by
          rw [hks.out, HORD.out.2, List.map_take, List.map_take, hkr.out]
          exact Lib.hid rfl
        have hrt : Hid ((r.take (wi)).length = wi) := by rw [List.length_take, hrl.out]; exact Lib.hid (by omega)
        clear hb9 HM
        have hcn : ((wi : Nat) : Int) ≤ (cr : Int) := by omega
        have hcz : ¬ cr = 0 := by omega
        go_wp2_with fail
        refine (so_segs (wi) (wi) _ _ _ _ hsl hrt _ _ _ (by omega) hkk HP.out.1).mono ?_
        rintro e wf ⟨rfl, hbf⟩
        have hfin := HB.out.wh.trans ((HP.out.2.trans (hbf.mono HP.out.2.size)).mono hz1)
        clear hbf HP
        go_wp2_with fail
        go_ret
        exact ⟨ret_bool17 (by simp), hfin⟩
  · refine wp_region_till 18 (fun w' => Below w1.heap.size w1 w') (fun _ => True) (by kernel_rfl) (HB2.out.drew) trivial ?_
    show Go_ _ _ _ _ _ _ _ _ _ _ (World.drew _)
    refine Go_.take (i := 0) (oi := ⟨some 67, Op.move (Operand.tmp 12), 75, _, _, none⟩) (v := ?_) rfl (by kernel_rfl) (by kernel_rfl) (by kernel_rfl) rfl (fun _ _ _ h => h) (Or.inl ⟨by rfl, ?_⟩) ?_
    rotate_left; · intro w0 _; go_simp; try with_reducible rfl
    try simp only [Act.put, List.setIfInBounds_toArray, List.set_cons_zero, List.set_cons_succ]
    refine Go_.take (i := 1) (oi := ⟨some 68, Op.move (Operand.tmp 10), 75, _, _, none⟩) (v := ?_) rfl (by kernel_rfl) (by kernel_rfl) (by kernel_rfl) rfl (fun _ _ _ h => h) (Or.inl ⟨by rfl, ?_⟩) ?_
    rotate_left; · intro w0 _; go_simp; try with_reducible rfl
    try simp only [Act.put, List.setIfInBounds_toArray, List.set_cons_zero, List.set_cons_succ]
    refine Go_.take (i := 2) (oi := ⟨some 69, Op.move (Operand.tmp 11), 3, _, _, none⟩) (v := ?_) rfl (by kernel_rfl) (by kernel_rfl) (by kernel_rfl) rfl (fun _ _ _ h => h) (Or.inl ⟨by rfl, ?_⟩) ?_
    rotate_left; · intro w0 _; go_simp; try with_reducible rfl
    try simp only [Act.put, List.setIfInBounds_toArray, List.set_cons_zero, List.set_cons_succ]
    refine Go_.take (i := 3) (oi := ⟨some 70, Op.binOp BinOp.add 3 (Operand.tmp 69) (Operand.const (Value.int IntKind.i64 1)) 3, 3, _, _, none⟩) (v := ?_) rfl (by kernel_rfl) (by kernel_rfl) (by kernel_rfl) rfl (fun _ _ _ h => h) (Or.inl ⟨by rfl, ?_⟩) ?_
    rotate_left; · intro w0 _; go_simp; try with_reducible rfl
    try simp only [Act.put, List.setIfInBounds_toArray, List.set_cons_zero, List.set_cons_succ]
    refine Go_.take (i := 4) (oi := ⟨some 71, Op.indexAddr 75 (Operand.tmp 68) (Operand.tmp 70), 0, _, _, none⟩) (v := ?_) rfl (by kernel_rfl) (by kernel_rfl) (by kernel_rfl) rfl (fun _ _ _ h => h) (Or.inl ⟨by rfl, ?_⟩) ?_
    rotate_left; · intro w0 _; go_simp; try with_reducible rfl
    try simp only [Act.put, List.setIfInBounds_toArray, List.set_cons_zero, List.set_cons_succ]
    refine Go_.take (i := 5) (oi := ⟨some 72, Op.load 81 (Operand.tmp 71), 81, _, _, none⟩) (v := ?_) rfl (by kernel_rfl) (by kernel_rfl) (by kernel_rfl) rfl (fun _ _ _ h => h) (Or.inl ⟨by rfl, ?_⟩) ?_
    rotate_left; · intro w0 hS; have hsr0 := HB.out.sr.below hS; have hcA := hsr0.cells0 (wi + 1) hq1; have hcB := hsr0.cells0 wi hq0; go_simp; try with_reducible rfl
    try simp only [Act.put, List.setIfInBounds_toArray, List.set_cons_zero, List.set_cons_succ]
    refine Go_.take (i := 6) (oi := ⟨some 73, Op.move (Operand.tmp 10), 75, _, _, none⟩) (v := ?_) rfl (by kernel_rfl) (by kernel_rfl) (by kernel_rfl) rfl (fun _ _ _ h => h) (Or.inl ⟨by rfl, ?_⟩) ?_
    rotate_left; · intro w0 _; go_simp; try with_reducible rfl
    try simp only [Act.put, List.setIfInBounds_toArray, List.set_cons_zero, List.set_cons_succ]
    refine Go_.take (i := 7) (oi := ⟨some 74, Op.move (Operand.tmp 11), 3, _, _, none⟩) (v := ?_) rfl (by kernel_rfl) (by kernel_rfl) (by kernel_rfl) rfl (fun _ _ _ h => h) (Or.inl ⟨by rfl, ?_⟩) ?_
    rotate_left; · intro w0 _; go_simp; try with_reducible rfl
    try simp only [Act.put, List.setIfInBounds_toArray, List.set_cons_zero, List.set_cons_succ]
    refine Go_.take (i := 8) (oi := ⟨some 75, Op.indexAddr 75 (Operand.tmp 73) (Operand.tmp 74), 0, _, _, none⟩) (v := ?_) rfl (by kernel_rfl) (by kernel_rfl) (by kernel_rfl) rfl (fun _ _ _ h => h) (Or.inl ⟨by rfl, ?_⟩) ?_
    rotate_left; · intro w0 _; go_simp; try with_reducible rfl
    try simp only [Act.put, List.setIfInBounds_toArray, List.set_cons_zero, List.set_cons_succ]
    refine Go_.take (i := 9) (oi := ⟨some 76, Op.load 81 (Operand.tmp 75), 81, _, _, none⟩) (v := ?_) rfl (by kernel_rfl) (by kernel_rfl) (by kernel_rfl) rfl (fun _ _ _ h => h) (Or.inl ⟨by rfl, ?_⟩) ?_
    rotate_left; · intro w0 hS; have hsr0 := HB.out.sr.below hS; have hcA := hsr0.cells0 (wi + 1) hq1; have hcB := hsr0.cells0 wi hq0; go_simp; try with_reducible rfl
    try simp only [Act.put, List.setIfInBounds_toArray, List.set_cons_zero, List.set_cons_succ]
    refine Go_.take (i := 12) (oi := ⟨some 79, Op.move (Operand.tmp 10), 75, _, _, none⟩) (v := ?_) rfl (by kernel_rfl) (by kernel_rfl) (by kernel_rfl) rfl (fun _ _ _ h => h) (Or.inl ⟨by rfl, ?_⟩) ?_
    rotate_left; · intro w0 _; go_simp; try with_reducible rfl
    try simp only [Act.put, List.setIfInBounds_toArray, List.set_cons_zero, List.set_cons_succ]
    refine Go_.take (i := 13) (oi := ⟨some 80, Op.move (Operand.tmp 11), 3, _, _, none⟩) (v := ?_) rfl (by kernel_rfl) (by kernel_rfl) (by kernel_rfl) rfl (fun _ _ _ h => h) (Or.inl ⟨by rfl, ?_⟩) ?_
    rotate_left; · intro w0 _; go_simp; try with_reducible rfl
    try simp only [Act.put, List.setIfInBounds_toArray, List.set_cons_zero, List.set_cons_succ]
    refine Go_.take (i := 14) (oi := ⟨some 81, Op.binOp BinOp.add 3 (Operand.tmp 80) (Operand.const (Value.int IntKind.i64 2)) 3, 3, _, _, none⟩) (v := ?_) rfl (by kernel_rfl) (by kernel_rfl) (by kernel_rfl) rfl (fun _ _ _ h => h) (Or.inl ⟨by rfl, ?_⟩) ?_
    rotate_left; · intro w0 _; go_simp; try with_reducible rfl
    try simp only [Act.put, List.setIfInBounds_toArray, List.set_cons_zero, List.set_cons_succ]
    refine Go_.take (i := 15) (oi := ⟨some 82, Op.slice 75 (Operand.tmp 79) (some (Operand.tmp 81)) none none, 75, _, _, none⟩) (v := ?_) rfl (by kernel_rfl) (by kernel_rfl) (by kernel_rfl) rfl (fun _ _ _ h => h) (Or.inl ⟨by rfl, ?_⟩) ?_
    rotate_left; · intro w0 _; go_simp; try with_reducible rfl
    try simp only [Act.put, List.setIfInBounds_toArray, List.set_cons_zero, List.set_cons_succ]
    refine Go_.step (i := 10) (o := ⟨some 77, Op.buildSlice 75 2 #[(0, Operand.tmp 72), (1, Operand.tmp 76)], 75, _, _, none⟩) (by kernel_rfl) rfl (fun K hT hK => ?_)
    replace hT := hT.1
    rw [if_pos (by rfl)]
    go_simp
    refine hK.out _ _ (Till.of (hT.alloc hT.size _)) ?_
    clear hT hK K
    refine Go_.step (i := 11) (o := ⟨some 78, Op.call { callee := Callee.builtin Builtin.append, args := #[Operand.tmp 67, Operand.tmp 77], argTypes := #[75, 75] }, 75, _, _, none⟩) (by kernel_rfl) rfl (fun K hT hK => ?_)
    replace hT := hT.1
    rw [if_pos (by rfl)]
    refine wp_appK (.tmp 67) (.tmp 77) rfl (by rfl) rfl HOB.out (by rfl) rfl HS11.out hlen11 hz2d ?_
    intro A3 c3 o3 w3 ho3 hO3 _ hg3
    have hb3 := hT.grown hg3 hz2d (fun q hq => (HOB.out.lt q hq).1)
    have ho3l : o3.length ≤ 1000 := by rw [ho3.out, List.length_append, HO2.out]; simp; omega
    have hSg16 : Sgs w3 (some ⟨g, (wi + 2) * 4, none⟩) (r.drop (wi + 2)) := (HB.out.sr.dropAt (wi + 2) (by rw [hrl.out]; omega)).below hb3
    refine hK.out _ _ (Till.of hb3) ?_
    clear hT hK K
    refine Go_.step (i := 16) (o := ⟨some 83, Op.call { callee := Callee.builtin Builtin.append, args := #[Operand.tmp 78, Operand.tmp 82], argTypes := #[75, 75] }, 75, _, _, none⟩) (by kernel_rfl) rfl (fun K hT hK => ?_)
    replace hT := hT.1
    rw [if_pos (by rfl)]
    refine wp_appK (.tmp 78) (.tmp 82) rfl (by rfl) rfl hO3 (by rfl) (by rw [List.length_drop, hrl.out]; omega) hSg16 (by rw [List.length_drop, hrl.out]; omega) hb3.size ?_
    intro A4 c4 o4 w4 ho4 hO4 _ hg4
    have hb4 := hT.grown hg4 hb3.size (fun q hq => (hO3.lt q hq).1)
    refine hK.out _ _ (Till.of hb4) ?_
    clear hT hK K
    refine Go_.take (i := 17) (oi := ⟨some 12, Op.assign (Operand.tmp 83), 75, _, _, none⟩) (v := ?_) rfl (by kernel_rfl) (by kernel_rfl) (by kernel_rfl) rfl (fun _ _ _ h => h) (Or.inl ⟨by rfl, ?_⟩) ?_
    rotate_left; · intro w0 _; go_simp; try with_reducible rfl
    try simp only [Act.put, List.setIfInBounds_toArray, List.set_cons_zero, List.set_cons_succ]
    refine Go_.doneA (by kernel_rfl) (fun _ => ?_)
    have ho4e : o4 = r.take wi ++ [r[wi + 1], r[wi]] ++ r.drop (wi + 2) := by rw [ho4.out, ho3.out, ho2.out]; rfl
    obtain ⟨D, hD⟩ : ∃ D, Hid (D = (rowD l).take wi ++ [(rowD l)[wi + 1], (rowD l)[wi]] ++ (rowD l).drop (wi + 2)) := ⟨_, Lib.hid rfl⟩
    have hord := ord_0 l hl6 h300.out wi hwi hd0 hd1 D hD.out
    have hkey4 : Hid (o4.map SegV.key = D.map SegD.key) := by
      rw [ho4e, hD.out]
      exact Lib.hid (by
      have hka : (r[wi]).key = ((rowD l)[wi]).key := by
        have h2 := congrArg (fun x => x[wi]?) hkr.out
        simp only [List.getElem?_map, List.getElem?_eq_getElem hq0, List.getElem?_eq_getElem hd0, Option.map_some, Option.some.injEq] at h2
        exact h2
      have hkb : (r[wi + 1]).key = ((rowD l)[wi + 1]).key := by
        have h2 := congrArg (fun x => x[wi + 1]?) hkr.out
        simp only [List.getElem?_map, List.getElem?_eq_getElem hq1, List.getElem?_eq_getElem hd1, Option.map_some, Option.some.injEq] at h2
        exact h2
      simp only [List.map_append, List.map_take, List.map_drop, hkr.out, List.map_cons, List.map_nil, hka, hkb])
    have hbod4 : Hid (∀ s ∈ o4, Bts w1 s.A s.body) := Lib.hid (mem_map_key HB.out.br (fun s hs => by
      rw [ho4e] at hs
      simp only [List.mem_append, List.mem_cons, List.not_mem_nil, or_false] at hs
      rcases hs with (h | h) | h
      · exact List.mem_of_mem_take h
      · rcases h with rfl | rfl <;> exact List.getElem_mem _
      · exact List.mem_of_mem_drop h))
    have hlen4 : o4.length ≤ 9 := by
      rw [ho4e]
      simp only [List.length_append, List.length_take, List.length_drop, List.length_cons, List.length_nil]
      have := hrl.out
      omega
    have hDl : Hid (D.length = o4.length) := by
      have := congrArg List.length hkey4.out
      simp only [List.length_map] at this
      exact Lib.hid this.symm
    have HORD := Lib.hid hord
    have HE := Lib.hid ho4e
    clear hord ho4e ho4 ho2 hO2 hg4 hz2 hb3 hSg16 hO3 hg3 ho3 ho3l HS11 HOB HBC HB2
    go_wp2_with fail
    go_loopw [13, 14] (fun v x wr => ∃ (i : Nat) (A5 : Option Addr) (c5 : Nat) (rb : List UInt8), i ≤ o4.length ∧ v = .slice A5 rb.length c5 ∧ x = .int .i64 i ∧ Hid (rb = catS k (D.take i)) ∧ rb.length ≤ 345 * i ∧ Own wr w1.heap.size A5 c5 rb ∧ OwnS wr w1.heap.size A4 c4 o4 ∧ Below w1.heap.size w1 wr) (fun _ x _ => o4.length - (intOf x).toNat)
    case atStart => exact ⟨0, none, 0, [], by omega, rfl, rfl, Lib.hid (by simp [catS]), by simp, Own.nil _ _, hO4, hb4⟩
    case round =>
      clear hO4 hb4
      obtain ⟨i, A5, c5, rb, hi, rfl, rfl, hrb, hrbl, ho, hO, hb⟩ := hrel
      by_cases hlt : i < o4.length
      · have hiD : i < D.length := by rw [hDl.out]; exact hlt
        have hkd : Hid ((o4[i]).key = (D[i]).key) := by
          have h2 := congrArg (fun x => x[i]?) hkey4.out
          simp only [List.getElem?_map, List.getElem?_eq_getElem hlt, List.getElem?_eq_getElem hiD, Option.map_some, Option.some.injEq] at h2
          exact Lib.hid h2
        have hgd : Hid (D[i]).good := HORD.out.1.1 _ (List.getElem_mem hiD)
        have hBi : Hid (Bts w1 o4[i].A o4[i].body) := hbod4.out _ (List.getElem_mem hlt)
        have hct := Lib.hid (catS_take k D i hiD)
        have hbl := Lib.hid (bytes_len k D[i] hgd.out).1
        have hsg := hO.sgs
        obtain ⟨b4, f4, rfl, _⟩ := hsg.some (by omega)
        have HW := Lib.hid (And.intro hb hsg)
        clear hb hsg
        go_wp2_with fail
        refine wp_region_till 11 (fun w' => Below w1.heap.size w1 w' ∧ Sgs w' (some ⟨b4, f4, none⟩) o4) (fun _ => True) (by kernel_rfl) (⟨HW.out.1.drew, HW.out.2⟩) trivial ?_
        show Go_ _ _ _ _ _ _ _ _ _ _ (World.drew _)
        refine Go_.take (i := 0) (oi := ⟨some 99, Op.load 28 (Operand.tmp 9), 28, _, _, none⟩) (v := ?_) rfl (by kernel_rfl) (by kernel_rfl) (by kernel_rfl) rfl (fun _ _ _ h => h) (Or.inl ⟨by rfl, ?_⟩) ?_
        rotate_left; · intro w0 hS; obtain ⟨hbw, hsg⟩ : Below w1.heap.size w1 w0 ∧ Sgs w0 (some ⟨b4, f4, none⟩) o4 := hS; have h8 := (HB.out.kh.belowW hbw).eight; have hcs := hsg.cells i hlt; go_simp; try with_reducible rfl
        try simp only [Act.put, List.setIfInBounds_toArray, List.set_cons_zero, List.set_cons_succ]
        refine Go_.take (i := 1) (oi := ⟨some 100, Op.move (Operand.tmp 12), 75, _, _, none⟩) (v := ?_) rfl (by kernel_rfl) (by kernel_rfl) (by kernel_rfl) rfl (fun _ _ _ h => h) (Or.inl ⟨by rfl, ?_⟩) ?_
        rotate_left; · intro w0 _; go_simp; try with_reducible rfl
        try simp only [Act.put, List.setIfInBounds_toArray, List.set_cons_zero, List.set_cons_succ]
        refine Go_.take (i := 2) (oi := ⟨some 101, Op.move (Operand.tmp 14), 3, _, _, none⟩) (v := ?_) rfl (by kernel_rfl) (by kernel_rfl) (by kernel_rfl) rfl (fun _ _ _ h => h) (Or.inl ⟨by rfl, ?_⟩) ?_
        rotate_left; · intro w0 _; go_simp; try with_reducible rfl
        try simp only [Act.put, List.setIfInBounds_toArray, List.set_cons_zero, List.set_cons_succ]
        refine Go_.take (i := 3) (oi := ⟨some 102, Op.indexAddr 75 (Operand.tmp 100) (Operand.tmp 101), 0, _, _, none⟩) (v := ?_) rfl (by kernel_rfl) (by kernel_rfl) (by kernel_rfl) rfl (fun _ _ _ h => h) (Or.inl ⟨by rfl, ?_⟩) ?_
        rotate_left; · intro w0 _; go_simp; try with_reducible rfl
        try simp only [Act.put, List.setIfInBounds_toArray, List.set_cons_zero, List.set_cons_succ]
        refine Go_.take (i := 4) (oi := ⟨some 103, Op.load 81 (Operand.tmp 102), 81, _, _, none⟩) (v := ?_) rfl (by kernel_rfl) (by kernel_rfl) (by kernel_rfl) rfl (fun _ _ _ h => h) (Or.inl ⟨by rfl, ?_⟩) ?_
        rotate_left; · intro w0 hS; obtain ⟨hbw, hsg⟩ : Below w1.heap.size w1 w0 ∧ Sgs w0 (some ⟨b4, f4, none⟩) o4 := hS; have h8 := (HB.out.kh.belowW hbw).eight; have hcs := hsg.cells i hlt; go_simp; try with_reducible rfl
        try simp only [Act.put, List.setIfInBounds_toArray, List.set_cons_zero, List.set_cons_succ]
        refine Go_.step (i := 5) (o := ⟨some 104, Op.call { callee := Callee.value (Operand.func 54), args := #[Operand.tmp 99, Operand.tmp 103], argTypes := #[28, 81] }, 78, _, _, none⟩) (by kernel_rfl) rfl (fun K hT hK => ?_)
        replace hT := hT.1
        rw [if_pos (by rfl)]
        go_simp
        refine (so_put k o4[i] D[i] hkd hgd _ (hBi.out.below hT.1)).mono ?_
        rintro e w6 ⟨A6, c6, rp, hrp, rfl, hB6, hb6⟩
        refine hK.out _ _ (Till.of ⟨hT.1.trans (hb6.mono hT.1.size), hT.2.below hb6⟩) ?_
        clear hT hK K
        refine Go_.take (i := 6) (oi := ⟨some 98, Op.move (Operand.tmp 104), 78, _, _, none⟩) (v := ?_) rfl (by kernel_rfl) (by kernel_rfl) (by kernel_rfl) rfl (fun _ _ _ h => h) (Or.inl ⟨by rfl, ?_⟩) ?_
        rotate_left; · intro w0 _; go_simp; try with_reducible rfl
        try simp only [Act.put, List.setIfInBounds_toArray, List.set_cons_zero, List.set_cons_succ]
        refine Go_.take (i := 7) (oi := ⟨some 105, Op.extract (Operand.tmp 98) 0, 24, _, _, none⟩) (v := ?_) rfl (by kernel_rfl) (by kernel_rfl) (by kernel_rfl) rfl (fun _ _ _ h => h) (Or.inl ⟨by rfl, ?_⟩) ?_
        rotate_left; · intro w0 _; go_simp; try with_reducible rfl
        try simp only [Act.put, List.setIfInBounds_toArray, List.set_cons_zero, List.set_cons_succ]
        refine Go_.take (i := 8) (oi := ⟨some 106, Op.extract (Operand.tmp 98) 1, 3, _, _, none⟩) (v := ?_) rfl (by kernel_rfl) (by kernel_rfl) (by kernel_rfl) rfl (fun _ _ _ h => h) (Or.inl ⟨by rfl, ?_⟩) ?_
        rotate_left; · intro w0 _; go_simp; try with_reducible rfl
        try simp only [Act.put, List.setIfInBounds_toArray, List.set_cons_zero, List.set_cons_succ]
        refine Go_.take (i := 9) (oi := ⟨some 15, Op.assign (Operand.tmp 105), 24, _, _, none⟩) (v := ?_) rfl (by kernel_rfl) (by kernel_rfl) (by kernel_rfl) rfl (fun _ _ _ h => h) (Or.inl ⟨by rfl, ?_⟩) ?_
        rotate_left; · intro w0 _; go_simp; try with_reducible rfl
        try simp only [Act.put, List.setIfInBounds_toArray, List.set_cons_zero, List.set_cons_succ]
        refine Go_.take (i := 10) (oi := ⟨some 16, Op.assign (Operand.tmp 106), 3, _, _, none⟩) (v := ?_) rfl (by kernel_rfl) (by kernel_rfl) (by kernel_rfl) rfl (fun _ _ _ h => h) (Or.inl ⟨by rfl, ?_⟩) ?_
        rotate_left; · intro w0 _; go_simp; try with_reducible rfl
        try simp only [Act.put, List.setIfInBounds_toArray, List.set_cons_zero, List.set_cons_succ]
        refine Go_.doneA (by kernel_rfl) (fun hA => ?_)
        have ho6 := ho.drew.below hb6
        have hO6 := Lib.hid (hO.drew.below hb6)
        have hz6 := hA.1.size
        have HA := Lib.hid hA
        have hrpl : rp.length ≤ 345 := by rw [hrp.out]; exact hbl.out
        clear hb6 hA
        go_wp2_with (at_builtin; refine wpList_app rfl (.tmp 109) (.tmp 110) rfl (by rfl) ho6 (by rfl) hB6 (by omega) hz6 ?_; intro A7 c7 r7 w7 hr7 ho7 hg7 ha7)
        go_round
        case rel =>
          have hr7l : r7.length = rb.length + rp.length := by rw [hr7.out, List.length_append]
          refine ⟨i + 1, A7, c7, r7, by omega, rfl, by go_num, Lib.hid ?_, by omega, ho7, hO6.out.grownB ho6 hg7, HA.out.1.grown hg7 hz6 (fun q hq => (ho6.lt q hq).1)⟩
          rw [hr7.out, hct.out, hrb.out, hrp.out]
        case measure => simp [intOf]; omega
      · obtain rfl : i = o4.length := by omega
        have hrb2 : Hid (rb = catS k D) := by rw [hrb.out, ← hDl.out, List.take_length]; exact rfl
        have hBb := ho.bts
        have hcap := ho.cap
        have h8 := (HB.out.kh.belowW hb).eight
        have HW := Lib.hid hb
        clear ho hO hrb hb
        go_wp2_with fail
        refine (so_all k D (wi) (Lib.hid HORD.out.1) A5 rb c5 _ hrb2 (by omega) hcap hBb).mono ?_
        rintro e w8 ⟨A8, c8, segs, to, hks, hsl, rfl, hs8, hbs8, hb8⟩
        have HM := Lib.hid (And.intro hs8 (And.intro hbs8 (HW.out.trans (hb8.mono HW.out.size))))
        clear hs8 hbs8 hb8 h8 hBb HW
        have hnn : ((l.length : Int) + 1) = (l.length : Int) + 1 := rfl
        go_wp2_with fail
        refine (told17 _).mono ?_
        rintro e w9 ⟨rfl, hb9⟩
        have HP : Hid (SgP w9 A8 (some ⟨g, 0, none⟩) segs (r.take (wi)) w9 ∧ Below w1.heap.size w1 w9) := Lib.hid ⟨⟨HM.out.1.below hb9, (HB.out.sr.take (wi)).below (HM.out.2.2.trans (hb9.mono HM.out.2.2.size)), fun s hs => (HM.out.2.1 s hs).below hb9, fun s hs => (HB.out.br s (List.mem_of_mem_take hs)).below (HM.out.2.2.trans (hb9.mono HM.out.2.2.size)), Below.refl _ _⟩, HM.out.2.2.trans (hb9.mono HM.out.2.2.size)⟩
        have hkk : Hid (segs.map SegV.key = (r.take (wi)).map SegV.key) := by
          rw [hks.out, HORD.out.2, List.map_take, List.map_take, hkr.out]
          exact Lib.hid rfl
        have hrt : Hid ((r.take (wi)).length = wi) := by rw [List.length_take, hrl.out]; exact Lib.hid (by omega)
        clear hb9 HM
        have hcn : ((wi : Nat) : Int) ≤ (cr : Int) := by omega
        have hcz : ¬ cr = 0 := by omega
        go_wp2_with fail
        refine (so_segs (wi) (wi) _ _ _ _ hsl hrt _ _ _ (by omega) hkk HP.out.1).mono ?_
        rintro e wf ⟨rfl, hbf⟩
        have hfin := HB.out.wh.trans ((HP.out.2.trans (hbf.mono HP.out.2.size)).mono hz1)
        clear hbf HP
        go_wp2_with fail
        go_ret
        exact ⟨ret_bool17 (by simp), hfin⟩
set_option maxRecDepth 20000 in
set_option maxHeartbeats 16000000 in
theorem sod_1 (k : K8) (A : Option Addr) (l : List SegV) (c : Nat) (wh how : Int) (wi : Nat) (w : World) (hl1 : 1 ≤ l.length) (hl6 : l.length ≤ 6) (h300 : Hid (∀ s ∈ l, s.body.length ≤ 300)) (hS : Sgs w A l) (hBl : Hid (∀ s ∈ l, Bts w s.A s.body)) (hwi : wi < l.length) (hwh : (IntKind.u64.wrap wh).tmod (l.length : Int) = (wi : Int)) (hhow : (IntKind.u64.wrap how).tmod 3 = 1) :
    Calls Try.prog 21 #[.agg #[.int .u32 (W k.k0), .int .u32 (W k.k1), .int .u32 (W k.k2), .int .u32 (W k.k3), .int .u32 (W k.k4), .int .u32 (W k.k5), .int .u32 (W k.k6), .int .u32 (W k.k7)], .slice A l.length c, .int .i64 wh, .int .i64 how] w fun e w' => e = .returned (.bool true) ∧ Below w.heap.size w w' := by
  have hfew : Hid (decide ((∀ s ∈ l, s.body.length ≤ 300) ∧ l.length ≤ 6) = true) := decide_eq_true ⟨h300.out, hl6⟩
  have hl1I : ¬ ((l.length : Int) < 1) := by omega
  have hl0I : ¬ (l.length : Int) = 0 := by omega
  have hwm : IntKind.u64.wrap (l.length : Int) = (l.length : Int) := by simp [IntKind.wrap, IntKind.bits, IntKind.signed]; omega
  have hw64 : wrap64 (wi : Int) = (wi : Int) := by simp [wrap64]; omega
  have hSA := hS.below ((Below.refl w.heap.size w).alloc (Nat.le_refl _) (.cells #[.int .u32 (W k.k0), .int .u32 (W k.k1), .int .u32 (W k.k2), .int .u32 (W k.k3), .int .u32 (W k.k4), .int .u32 (W k.k5), .int .u32 (W k.k6), .int .u32 (W k.k7)] 23))
  have hb2 : Below w.heap.size w ((w.alloc (.cells #[.int .u32 (W k.k0), .int .u32 (W k.k1), .int .u32 (W k.k2), .int .u32 (W k.k3), .int .u32 (W k.k4), .int .u32 (W k.k5), .int .u32 (W k.k6), .int .u32 (W k.k7)] 23)).alloc (.cells #[.int .u32 (W k.k0), .int .u32 (W k.k1), .int .u32 (W k.k2), .int .u32 (W k.k3), .int .u32 (W k.k4), .int .u32 (W k.k5), .int .u32 (W k.k6), .int .u32 (W k.k7)] 28)) := ((Below.refl _ _).alloc (Nat.le_refl _) _).alloc (by simp) _
  have hk2 := Holds.newAt (w.alloc (.cells #[.int .u32 (W k.k0), .int .u32 (W k.k1), .int .u32 (W k.k2), .int .u32 (W k.k3), .int .u32 (W k.k4), .int .u32 (W k.k5), .int .u32 (W k.k6), .int .u32 (W k.k7)] 23)) 28 [.int .u32 (W k.k0), .int .u32 (W k.k1), .int .u32 (W k.k2), .int .u32 (W k.k3), .int .u32 (W k.k4), .int .u32 (W k.k5), .int .u32 (W k.k6), .int .u32 (W k.k7)] (n := w.heap.size + 1) (by simp)
  have HS2 := Lib.hid (And.intro (hS.below hb2) (And.intro (fun s (hs : s ∈ l) => (hBl.out s hs).below hb2) (And.intro hk2 hb2)))
  clear hb2 hk2
  go_enter Try.func21, Try.ntmps21
  go_wp2_with fail
  refine (few_any A l c 6 _ (by omega) hSA).mono ?_
  rintro e w9 ⟨rfl, rfl⟩
  rw [hfew.out]
  clear hSA
  go_wp2_with fail
  refine (so_row A l c _ (by omega) HS2.out.1 HS2.out.2.1).mono ?_
  rintro e w1 ⟨g, cr, r, hkr, hrl, rfl, hcr, hsr, hbr, hb1⟩
  have HB : Hid (OrB w w1 g k r) := Lib.hid ⟨HS2.out.2.2.1.below hb1 HS2.out.2.2.1.lt, hsr, hbr, HS2.out.2.2.2.trans (hb1.mono HS2.out.2.2.2.size)⟩
  have hz1 : w.heap.size ≤ w1.heap.size := HB.out.wh.size
  clear hsr hbr hb1 HS2
  have hc0 : ¬ cr = 0 := by omega
  have hwc : (wi : Int) ≤ (cr : Int) := by omega
  have hO0 : OwnS (w1.alloc (.cells #[] 81)) w1.heap.size (some ⟨w1.heap.size, 0, none⟩) 0 [] := OwnS.made w1 w1.heap.size (Nat.le_refl _) [] (by simp)
  have hb10 : Below w1.heap.size w1 (w1.alloc (.cells #[] 81)) := (Below.refl _ _).alloc (Nat.le_refl _) _
  have hSg0 : Sgs (w1.alloc (.cells #[] 81)) (some ⟨g, 0, none⟩) (r.take wi) := (HB.out.sr.take wi).below hb10
  have hrt : (r.take wi).length = wi := by rw [List.length_take, hrl.out]; omega
  have hsz0 := hb10.size
  have hcw : ¬ cr = wi + 1 := by omega
  have hcw2 : (wi : Int) + 1 ≤ (cr : Int) := by omega
  go_wp2_with (at_builtin; first | (refine wpList_appN rfl (.tmp 41) (.tmp 44) rfl (by rfl) rfl hO0 (by rfl) hrt hSg0 (by simp; omega) hsz0 ?_; intro A2 c2 o2 w2 ho2 hO2 hg2; have hb2 : Below w1.heap.size w1 w2 := hb10.grown hg2 hsz0 (fun q hq => by have e : w1.heap.size = q := Option.some.inj hq; omega); have HO2 : Hid (o2.length = wi) := Lib.hid (by rw [ho2.out]; simpa using hrt); have hz2 := hb2.size; clear hO0 hb10 hSg0 hsz0 hg2 hrt hc0 hwc; have hdl : (r.drop (wi + 1)).length = l.length - wi := (by rw [List.length_drop, hrl.out]; omega); have hSg2 : Sgs w2 (some ⟨g, (wi + 1) * 4, none⟩) (r.drop (wi + 1)) := (HB.out.sr.dropAt (wi + 1) (by rw [hrl.out]; omega)).below hb2; have hlen2 : o2.length + (r.drop (wi + 1)).length ≤ 1000000 := (by rw [HO2.out, hdl]; omega)) | (refine wpList_appN rfl (.tmp 86) (.tmp 90) rfl (by rfl) rfl hO2 (by rfl) hdl hSg2 hlen2 hz2 ?_; intro A4 c4 o4 w4 ho4 hO4 hg4; clear hcw hcw2))
  have hb4 : Below w1.heap.size w1 w4 := hb2.grown hg4 hz2 (fun q hq => (hO2.lt q hq).1)
  have ho4e : o4 = r.take wi ++ r.drop (wi + 1) := by rw [ho4.out, ho2.out]; rfl
  obtain ⟨D, hD⟩ : ∃ D, Hid (D = (rowD l).take wi ++ (rowD l).drop (wi + 1)) := ⟨_, Lib.hid rfl⟩
  have hord := ord_1 l hl6 h300.out wi hwi D hD.out
  have hkey4 : Hid (o4.map SegV.key = D.map SegD.key) := by
    rw [ho4e, hD.out]
    exact Lib.hid (by rw [List.map_append, List.map_append, List.map_take, List.map_take, List.map_drop, List.map_drop, hkr.out])
  have hbod4 : Hid (∀ s ∈ o4, Bts w1 s.A s.body) := Lib.hid (mem_map_key HB.out.br (fun s hs => by
    rw [ho4e] at hs
    simp only [List.mem_append, List.mem_cons, List.not_mem_nil, or_false] at hs
    rcases hs with h | h
    · exact List.mem_of_mem_take h
    · exact List.mem_of_mem_drop h))
  have hlen4 : o4.length ≤ 9 := by
    rw [ho4e]
    simp only [List.length_append, List.length_take, List.length_drop, List.length_cons, List.length_nil]
    have := hrl.out
    omega
  have hDl : Hid (D.length = o4.length) := by
    have := congrArg List.length hkey4.out
    simp only [List.length_map] at this
    exact Lib.hid this.symm
  have HORD := Lib.hid hord
  have HE := Lib.hid ho4e
  clear hord ho4e ho4 ho2 hO2 hb2 hg4 hz2 hdl hSg2 hlen2
  go_wp2_with fail
  go_loopw [13, 14] (fun v x wr => ∃ (i : Nat) (A5 : Option Addr) (c5 : Nat) (rb : List UInt8), i ≤ o4.length ∧ v = .slice A5 rb.length c5 ∧ x = .int .i64 i ∧ Hid (rb = catS k (D.take i)) ∧ rb.length ≤ 345 * i ∧ Own wr w1.heap.size A5 c5 rb ∧ OwnS wr w1.heap.size A4 c4 o4 ∧ Below w1.heap.size w1 wr) (fun _ x _ => o4.length - (intOf x).toNat)
  case atStart => exact ⟨0, none, 0, [], by omega, rfl, rfl, Lib.hid (by simp [catS]), by simp, Own.nil _ _, hO4, hb4⟩
  case round =>
    clear hO4 hb4
    obtain ⟨i, A5, c5, rb, hi, rfl, rfl, hrb, hrbl, ho, hO, hb⟩ := hrel
    by_cases hlt : i < o4.length
    · have hiD : i < D.length := by rw [hDl.out]; exact hlt
      have hkd : Hid ((o4[i]).key = (D[i]).key) := by
        have h2 := congrArg (fun x => x[i]?) hkey4.out
        simp only [List.getElem?_map, List.getElem?_eq_getElem hlt, List.getElem?_eq_getElem hiD, Option.map_some, Option.some.injEq] at h2
        exact Lib.hid h2
      have hgd : Hid (D[i]).good := HORD.out.1.1 _ (List.getElem_mem hiD)
      have hBi : Hid (Bts w1 o4[i].A o4[i].body) := hbod4.out _ (List.getElem_mem hlt)
      have hct := Lib.hid (catS_take k D i hiD)
      have hbl := Lib.hid (bytes_len k D[i] hgd.out).1
      have hsg := hO.sgs
      obtain ⟨b4, f4, rfl, _⟩ := hsg.some (by omega)
      have HW := Lib.hid (And.intro hb hsg)
      clear hb hsg
      go_wp2_with fail
      refine wp_region_till 11 (fun w' => Below w1.heap.size w1 w' ∧ Sgs w' (some ⟨b4, f4, none⟩) o4) (fun _ => True) (by kernel_rfl) (⟨HW.out.1.drew, HW.out.2⟩) trivial ?_
      show Go_ _ _ _ _ _ _ _ _ _ _ (World.drew _)
      refine Go_.take (i := 0) (oi := ⟨some 99, Op.load 28 (Operand.tmp 9), 28, _, _, none⟩) (v := ?_) rfl (by kernel_rfl) (by kernel_rfl) (by kernel_rfl) rfl (fun _ _ _ h => h) (Or.inl ⟨by rfl, ?_⟩) ?_
      rotate_left; · intro w0 hS; obtain ⟨hbw, hsg⟩ : Below w1.heap.size w1 w0 ∧ Sgs w0 (some ⟨b4, f4, none⟩) o4 := hS; have h8 := (HB.out.kh.belowW hbw).eight; have hcs := hsg.cells i hlt; go_simp; try with_reducible rfl
      try simp only [Act.put, List.setIfInBounds_toArray, List.set_cons_zero, List.set_cons_succ]
      refine Go_.take (i := 1) (oi := ⟨some 100, Op.move (Operand.tmp 12), 75, _, _, none⟩) (v := ?_) rfl (by kernel_rfl) (by kernel_rfl) (by kernel_rfl) rfl (fun _ _ _ h => h) (Or.inl ⟨by rfl, ?_⟩) ?_
      rotate_left; · intro w0 _; go_simp; try with_reducible rfl
      try simp only [Act.put, List.setIfInBounds_toArray, List.set_cons_zero, List.set_cons_succ]
      refine Go_.take (i := 2) (oi := ⟨some 101, Op.move (Operand.tmp 14), 3, _, _, none⟩) (v := ?_) rfl (by kernel_rfl) (by kernel_rfl) (by kernel_rfl) rfl (fun _ _ _ h => h) (Or.inl ⟨by rfl, ?_⟩) ?_
      rotate_left; · intro w0 _; go_simp; try with_reducible rfl
      try simp only [Act.put, List.setIfInBounds_toArray, List.set_cons_zero, List.set_cons_succ]
      refine Go_.take (i := 3) (oi := ⟨some 102, Op.indexAddr 75 (Operand.tmp 100) (Operand.tmp 101), 0, _, _, none⟩) (v := ?_) rfl (by kernel_rfl) (by kernel_rfl) (by kernel_rfl) rfl (fun _ _ _ h => h) (Or.inl ⟨by rfl, ?_⟩) ?_
      rotate_left; · intro w0 _; go_simp; try with_reducible rfl
      try simp only [Act.put, List.setIfInBounds_toArray, List.set_cons_zero, List.set_cons_succ]
      refine Go_.take (i := 4) (oi := ⟨some 103, Op.load 81 (Operand.tmp 102), 81, _, _, none⟩) (v := ?_) rfl (by kernel_rfl) (by kernel_rfl) (by kernel_rfl) rfl (fun _ _ _ h => h) (Or.inl ⟨by rfl, ?_⟩) ?_
      rotate_left; · intro w0 hS; obtain ⟨hbw, hsg⟩ : Below w1.heap.size w1 w0 ∧ Sgs w0 (some ⟨b4, f4, none⟩) o4 := hS; have h8 := (HB.out.kh.belowW hbw).eight; have hcs := hsg.cells i hlt; go_simp; try with_reducible rfl
      try simp only [Act.put, List.setIfInBounds_toArray, List.set_cons_zero, List.set_cons_succ]
      refine Go_.step (i := 5) (o := ⟨some 104, Op.call { callee := Callee.value (Operand.func 54), args := #[Operand.tmp 99, Operand.tmp 103], argTypes := #[28, 81] }, 78, _, _, none⟩) (by kernel_rfl) rfl (fun K hT hK => ?_)
      replace hT := hT.1
      rw [if_pos (by rfl)]
      go_simp
      refine (so_put k o4[i] D[i] hkd hgd _ (hBi.out.below hT.1)).mono ?_
      rintro e w6 ⟨A6, c6, rp, hrp, rfl, hB6, hb6⟩
      refine hK.out _ _ (Till.of ⟨hT.1.trans (hb6.mono hT.1.size), hT.2.below hb6⟩) ?_
      clear hT hK K
      refine Go_.take (i := 6) (oi := ⟨some 98, Op.move (Operand.tmp 104), 78, _, _, none⟩) (v := ?_) rfl (by kernel_rfl) (by kernel_rfl) (by kernel_rfl) rfl (fun _ _ _ h => h) (Or.inl ⟨by rfl, ?_⟩) ?_
      rotate_left; · intro w0 _; go_simp; try with_reducible rfl
      try simp only [Act.put, List.setIfInBounds_toArray, List.set_cons_zero, List.set_cons_succ]
      refine Go_.take (i := 7) (oi := ⟨some 105, Op.extract (Operand.tmp 98) 0, 24, _, _, none⟩) (v := ?_) rfl (by kernel_rfl) (by kernel_rfl) (by kernel_rfl) rfl (fun _ _ _ h => h) (Or.inl ⟨by rfl, ?_⟩) ?_
      rotate_left; · intro w0 _; go_simp; try with_reducible rfl
      try simp only [Act.put, List.setIfInBounds_toArray, List.set_cons_zero, List.set_cons_succ]
      refine Go_.take (i := 8) (oi := ⟨some 106, Op.extract (Operand.tmp 98) 1, 3, _, _, none⟩) (v := ?_) rfl (by kernel_rfl) (by kernel_rfl) (by kernel_rfl) rfl (fun _ _ _ h => h) (Or.inl ⟨by rfl, ?_⟩) ?_
      rotate_left; · intro w0 _; go_simp; try with_reducible rfl
      try simp only [Act.put, List.setIfInBounds_toArray, List.set_cons_zero, List.set_cons_succ]
      refine Go_.take (i := 9) (oi := ⟨some 15, Op.assign (Operand.tmp 105), 24, _, _, none⟩) (v := ?_) rfl (by kernel_rfl) (by kernel_rfl) (by kernel_rfl) rfl (fun _ _ _ h => h) (Or.inl ⟨by rfl, ?_⟩) ?_
      rotate_left; · intro w0 _; go_simp; try with_reducible rfl
      try simp only [Act.put, List.setIfInBounds_toArray, List.set_cons_zero, List.set_cons_succ]
      refine Go_.take (i := 10) (oi := ⟨some 16, Op.assign (Operand.tmp 106), 3, _, _, none⟩) (v := ?_) rfl (by kernel_rfl) (by kernel_rfl) (by kernel_rfl) rfl (fun _ _ _ h => h) (Or.inl ⟨by rfl, ?_⟩) ?_
      rotate_left; · intro w0 _; go_simp; try with_reducible rfl
      try simp only [Act.put, List.setIfInBounds_toArray, List.set_cons_zero, List.set_cons_succ]
      refine Go_.doneA (by kernel_rfl) (fun hA => ?_)
      have ho6 := ho.drew.below hb6
      have hO6 := Lib.hid (hO.drew.below hb6)
      have hz6 := hA.1.size
      have HA := Lib.hid hA
      have hrpl : rp.length ≤ 345 := by rw [hrp.out]; exact hbl.out
      clear hb6 hA
      go_wp2_with (at_builtin; refine wpList_app rfl (.tmp 109) (.tmp 110) rfl (by rfl) ho6 (by rfl) hB6 (by omega) hz6 ?_; intro A7 c7 r7 w7 hr7 ho7 hg7 ha7)
      go_round
      case rel =>
        have hr7l : r7.length = rb.length + rp.length := by rw [hr7.out, List.length_append]
        refine ⟨i + 1, A7, c7, r7, by omega, rfl, by go_num, Lib.hid ?_, by omega, ho7, hO6.out.grownB ho6 hg7, HA.out.1.grown hg7 hz6 (fun q hq => (ho6.lt q hq).1)⟩
        rw [hr7.out, hct.out, hrb.out, hrp.out]
      case measure => simp [intOf]; omega
    · obtain rfl : i = o4.length := by omega
      have hrb2 : Hid (rb = catS k D) := by rw [hrb.out, ← hDl.out, List.take_length]; exact rfl
      have hBb := ho.bts
      have hcap := ho.cap
      have h8 := (HB.out.kh.belowW hb).eight
      have HW := Lib.hid hb
      clear ho hO hrb hb
      go_wp2_with fail
      refine (so_all k D (wi) (Lib.hid HORD.out.1) A5 rb c5 _ hrb2 (by omega) hcap hBb).mono ?_
      rintro e w8 ⟨A8, c8, segs, to, hks, hsl, rfl, hs8, hbs8, hb8⟩
      have HM := Lib.hid (And.intro hs8 (And.intro hbs8 (HW.out.trans (hb8.mono HW.out.size))))
      clear hs8 hbs8 hb8 h8 hBb HW
      have hnn : ((l.length : Int) + 1) = (l.length : Int) + 1 := rfl
      go_wp2_with fail
      refine (told17 _).mono ?_
      rintro e w9 ⟨rfl, hb9⟩
      have HP : Hid (SgP w9 A8 (some ⟨g, 0, none⟩) segs (r.take (wi)) w9 ∧ Below w1.heap.size w1 w9) := Lib.hid ⟨⟨HM.out.1.below hb9, (HB.out.sr.take (wi)).below (HM.out.2.2.trans (hb9.mono HM.out.2.2.size)), fun s hs => (HM.out.2.1 s hs).below hb9, fun s hs => (HB.out.br s (List.mem_of_mem_take hs)).below (HM.out.2.2.trans (hb9.mono HM.out.2.2.size)), Below.refl _ _⟩, HM.out.2.2.trans (hb9.mono HM.out.2.2.size)⟩
      have hkk : Hid (segs.map SegV.key = (r.take (wi)).map SegV.key) := by
        rw [hks.out, HORD.out.2, List.map_take, List.map_take, hkr.out]
        exact Lib.hid rfl
      have hrt : Hid ((r.take (wi)).length = wi) := by rw [List.length_take, hrl.out]; exact Lib.hid (by omega)
      clear hb9 HM
      have hcn : ((wi : Nat) : Int) ≤ (cr : Int) := by omega
      have hcz : ¬ cr = 0 := by omega
      go_wp2_with fail
      refine (so_segs (wi) (wi) _ _ _ _ hsl hrt _ _ _ (by omega) hkk HP.out.1).mono ?_
      rintro e wf ⟨rfl, hbf⟩
      have hfin := HB.out.wh.trans ((HP.out.2.trans (hbf.mono HP.out.2.size)).mono hz1)
      clear hbf HP
      go_wp2_with fail
      go_ret
      exact ⟨ret_bool17 (by simp), hfin⟩
set_option maxRecDepth 20000 in
set_option maxHeartbeats 16000000 in
theorem sod_2 (k : K8) (A : Option Addr) (l : List SegV) (c : Nat) (wh how : Int) (wi : Nat) (w : World) (hl1 : 1 ≤ l.length) (hl6 : l.length ≤ 6) (h300 : Hid (∀ s ∈ l, s.body.length ≤ 300)) (hS : Sgs w A l) (hBl : Hid (∀ s ∈ l, Bts w s.A s.body)) (hwi : wi < l.length) (hwh : (IntKind.u64.wrap wh).tmod (l.length : Int) = (wi : Int)) (hhow : (IntKind.u64.wrap how).tmod 3 = 2) :
    Calls Try.prog 21 #[.agg #[.int .u32 (W k.k0), .int .u32 (W k.k1), .int .u32 (W k.k2), .int .u32 (W k.k3), .int .u32 (W k.k4), .int .u32 (W k.k5), .int .u32 (W k.k6), .int .u32 (W k.k7)], .slice A l.length c, .int .i64 wh, .int .i64 how] w fun e w' => e = .returned (.bool true) ∧ Below w.heap.size w w' := by
  have hfew : Hid (decide ((∀ s ∈ l, s.body.length ≤ 300) ∧ l.length ≤ 6) = true) := decide_eq_true ⟨h300.out, hl6⟩
  have hl1I : ¬ ((l.length : Int) < 1) := by omega
  have hl0I : ¬ (l.length : Int) = 0 := by omega
  have hwm : IntKind.u64.wrap (l.length : Int) = (l.length : Int) := by simp [IntKind.wrap, IntKind.bits, IntKind.signed]; omega
  have hw64 : wrap64 (wi : Int) = (wi : Int) := by simp [wrap64]; omega
  have hSA := hS.below ((Below.refl w.heap.size w).alloc (Nat.le_refl _) (.cells #[.int .u32 (W k.k0), .int .u32 (W k.k1), .int .u32 (W k.k2), .int .u32 (W k.k3), .int .u32 (W k.k4), .int .u32 (W k.k5), .int .u32 (W k.k6), .int .u32 (W k.k7)] 23))
  have hb2 : Below w.heap.size w ((w.alloc (.cells #[.int .u32 (W k.k0), .int .u32 (W k.k1), .int .u32 (W k.k2), .int .u32 (W k.k3), .int .u32 (W k.k4), .int .u32 (W k.k5), .int .u32 (W k.k6), .int .u32 (W k.k7)] 23)).alloc (.cells #[.int .u32 (W k.k0), .int .u32 (W k.k1), .int .u32 (W k.k2), .int .u32 (W k.k3), .int .u32 (W k.k4), .int .u32 (W k.k5), .int .u32 (W k.k6), .int .u32 (W k.k7)] 28)) := ((Below.refl _ _).alloc (Nat.le_refl _) _).alloc (by simp) _
  have hk2 := Holds.newAt (w.alloc (.cells #[.int .u32 (W k.k0), .int .u32 (W k.k1), .int .u32 (W k.k2), .int .u32 (W k.k3), .int .u32 (W k.k4), .int .u32 (W k.k5), .int .u32 (W k.k6), .int .u32 (W k.k7)] 23)) 28 [.int .u32 (W k.k0), .int .u32 (W k.k1), .int .u32 (W k.k2), .int .u32 (W k.k3), .int .u32 (W k.k4), .int .u32 (W k.k5), .int .u32 (W k.k6), .int .u32 (W k.k7)] (n := w.heap.size + 1) (by simp)
  have HS2 := Lib.hid (And.intro (hS.below hb2) (And.intro (fun s (hs : s ∈ l) => (hBl.out s hs).below hb2) (And.intro hk2 hb2)))
  clear hb2 hk2
  go_enter Try.func21, Try.ntmps21
  go_wp2_with fail
  refine (few_any A l c 6 _ (by omega) hSA).mono ?_
  rintro e w9 ⟨rfl, rfl⟩
  rw [hfew.out]
  clear hSA
  go_wp2_with fail
  refine (so_row A l c _ (by omega) HS2.out.1 HS2.out.2.1).mono ?_
  rintro e w1 ⟨g, cr, r, hkr, hrl, rfl, hcr, hsr, hbr, hb1⟩
  have HB : Hid (OrB w w1 g k r) := Lib.hid ⟨HS2.out.2.2.1.below hb1 HS2.out.2.2.1.lt, hsr, hbr, HS2.out.2.2.2.trans (hb1.mono HS2.out.2.2.2.size)⟩
  have hz1 : w.heap.size ≤ w1.heap.size := HB.out.wh.size
  clear hsr hbr hb1 HS2
  have hc0 : ¬ cr = 0 := by omega
  have hwc : (wi : Int) ≤ (cr : Int) := by omega
  have hO0 : OwnS (w1.alloc (.cells #[] 81)) w1.heap.size (some ⟨w1.heap.size, 0, none⟩) 0 [] := OwnS.made w1 w1.heap.size (Nat.le_refl _) [] (by simp)
  have hb10 : Below w1.heap.size w1 (w1.alloc (.cells #[] 81)) := (Below.refl _ _).alloc (Nat.le_refl _) _
  have hSg0 : Sgs (w1.alloc (.cells #[] 81)) (some ⟨g, 0, none⟩) (r.take wi) := (HB.out.sr.take wi).below hb10
  have hrt : (r.take wi).length = wi := by rw [List.length_take, hrl.out]; omega
  have hsz0 := hb10.size
  go_wp2_with (at_builtin; refine wpList_appN rfl (.tmp 41) (.tmp 44) rfl (by rfl) rfl hO0 (by rfl) hrt hSg0 (by simp; omega) hsz0 ?_; intro A2 c2 o2 w2 ho2 hO2 hg2; have hb2 : Below w1.heap.size w1 w2 := hb10.grown hg2 hsz0 (fun q hq => by have e : w1.heap.size = q := Option.some.inj hq; omega); have HO2 : Hid (o2.length = wi) := Lib.hid (by rw [ho2.out]; simpa using hrt); have hz2 := hb2.size; clear hO0 hb10 hSg0 hsz0 hg2 hrt hc0 hwc)
  have hq0 : wi < r.length := by rw [hrl.out]; omega
  have hq1 : wi + 1 < r.length := by rw [hrl.out]; omega
  have hd0 : wi < (rowD l).length := by rw [rowD_len]; omega
  have hd1 : wi + 1 < (rowD l).length := by rw [rowD_len]; omega
  have hz2d : w1.heap.size ≤ (w2.drew.alloc (.cells #[.int .i64 r[wi].kind, .int .i64 r[wi].place, .bool r[wi].last, .slice r[wi].A r[wi].body.length r[wi].c, .int .i64 r[wi].kind, .int .i64 r[wi].place, .bool r[wi].last, .slice r[wi].A r[wi].body.length r[wi].c] 81)).heap.size := by simp; omega
  have hwI1 : (wi : Int) < (l.length : Int) + 1 := by omega
  have hwI0 : (wi : Int) < (l.length : Int) := by omega
  have hwx1 : IntKind.i64.wrap ((wi : Int) + 1) = (wi : Int) + 1 := by simp [IntKind.wrap, IntKind.bits, IntKind.signed]; omega
  have hwx2 : IntKind.i64.wrap ((wi : Int) + 2) = (wi : Int) + 2 := by simp [IntKind.wrap, IntKind.bits, IntKind.signed]; omega
  have hwt1 : ((wi : Int) + 1).toNat = wi + 1 := by omega
  have hwt2 : ((wi : Int) + 2).toNat = wi + 2 := by omega
  have hwb1 : 0 ≤ (wi : Int) + 1 ∧ (wi : Int) + 1 ≤ (l.length : Int) + 1 := by omega
  have hwb2 : 0 ≤ (wi : Int) + 2 ∧ (wi : Int) + 2 ≤ (l.length : Int) + 1 := by omega
  have hwb3 : 0 ≤ (wi : Int) + 1 ∧ (wi : Int) + 1 < (l.length : Int) + 1 := by omega
  have hbC : Below w2.drew.heap.size w2.drew (w2.drew.alloc (.cells #[.int .i64 r[wi].kind, .int .i64 r[wi].place, .bool r[wi].last, .slice r[wi].A r[wi].body.length r[wi].c, .int .i64 r[wi].kind, .int .i64 r[wi].place, .bool r[wi].last, .slice r[wi].A r[wi].body.length r[wi].c] 81)) := (Below.refl _ _).alloc (Nat.le_refl _) _
  have hO2b : OwnS (w2.drew.alloc (.cells #[.int .i64 r[wi].kind, .int .i64 r[wi].place, .bool r[wi].last, .slice r[wi].A r[wi].body.length r[wi].c, .int .i64 r[wi].kind, .int .i64 r[wi].place, .bool r[wi].last, .slice r[wi].A r[wi].body.length r[wi].c] 81)) w1.heap.size A2 c2 o2 := hO2.drew.below hbC
  have hSg11 : Sgs (w2.drew.alloc (.cells #[.int .i64 r[wi].kind, .int .i64 r[wi].place, .bool r[wi].last, .slice r[wi].A r[wi].body.length r[wi].c, .int .i64 r[wi].kind, .int .i64 r[wi].place, .bool r[wi].last, .slice r[wi].A r[wi].body.length r[wi].c] 81)) (some ⟨w2.drew.heap.size, 0, none⟩) [r[wi], r[wi]] := Sgs.of_holds (t := 81) (Holds.newAt _ 81 _ rfl)
  have hlen11 : o2.length + [r[wi], r[wi]].length ≤ 1000000 := by rw [HO2.out]; simp; omega
  have hcw2 : (wi : Int) + 1 ≤ (cr : Int) := by omega
  have HB2 := Lib.hid hb2
  have HBC := Lib.hid hbC
  have HS11 := Lib.hid hSg11
  have HOB := Lib.hid hO2b
  clear hb2 hbC hSg11 hO2b
  have hcw : ¬ cr = wi + 1 := by omega
  refine wp_region_till 17 (fun w' => Below w1.heap.size w1 w') (fun _ => True) (by kernel_rfl) (HB2.out.drew) trivial ?_
  show Go_ _ _ _ _ _ _ _ _ _ _ (World.drew _)
  refine Go_.take (i := 0) (oi := ⟨some 49, Op.move (Operand.tmp 12), 75, _, _, none⟩) (v := ?_) rfl (by kernel_rfl) (by kernel_rfl) (by kernel_rfl) rfl (fun _ _ _ h => h) (Or.inl ⟨by rfl, ?_⟩) ?_
  rotate_left; · intro w0 _; go_simp; try with_reducible rfl
  try simp only [Act.put, List.setIfInBounds_toArray, List.set_cons_zero, List.set_cons_succ]
  refine Go_.take (i := 1) (oi := ⟨some 50, Op.move (Operand.tmp 10), 75, _, _, none⟩) (v := ?_) rfl (by kernel_rfl) (by kernel_rfl) (by kernel_rfl) rfl (fun _ _ _ h => h) (Or.inl ⟨by rfl, ?_⟩) ?_
  rotate_left; · intro w0 _; go_simp; try with_reducible rfl
  try simp only [Act.put, List.setIfInBounds_toArray, List.set_cons_zero, List.set_cons_succ]
  refine Go_.take (i := 2) (oi := ⟨some 51, Op.move (Operand.tmp 11), 3, _, _, none⟩) (v := ?_) rfl (by kernel_rfl) (by kernel_rfl) (by kernel_rfl) rfl (fun _ _ _ h => h) (Or.inl ⟨by rfl, ?_⟩) ?_
  rotate_left; · intro w0 _; go_simp; try with_reducible rfl
  try simp only [Act.put, List.setIfInBounds_toArray, List.set_cons_zero, List.set_cons_succ]
  refine Go_.take (i := 3) (oi := ⟨some 52, Op.indexAddr 75 (Operand.tmp 50) (Operand.tmp 51), 0, _, _, none⟩) (v := ?_) rfl (by kernel_rfl) (by kernel_rfl) (by kernel_rfl) rfl (fun _ _ _ h => h) (Or.inl ⟨by rfl, ?_⟩) ?_
  rotate_left; · intro w0 _; go_simp; try with_reducible rfl
  try simp only [Act.put, List.setIfInBounds_toArray, List.set_cons_zero, List.set_cons_succ]
  refine Go_.take (i := 4) (oi := ⟨some 53, Op.load 81 (Operand.tmp 52), 81, _, _, none⟩) (v := ?_) rfl (by kernel_rfl) (by kernel_rfl) (by kernel_rfl) rfl (fun _ _ _ h => h) (Or.inl ⟨by rfl, ?_⟩) ?_
  rotate_left; · intro w0 hS; have hsr0 := HB.out.sr.below hS; have hcB := hsr0.cells0 wi hq0; go_simp; try with_reducible rfl
  try simp only [Act.put, List.setIfInBounds_toArray, List.set_cons_zero, List.set_cons_succ]
  refine Go_.take (i := 5) (oi := ⟨some 54, Op.move (Operand.tmp 10), 75, _, _, none⟩) (v := ?_) rfl (by kernel_rfl) (by kernel_rfl) (by kernel_rfl) rfl (fun _ _ _ h => h) (Or.inl ⟨by rfl, ?_⟩) ?_
  rotate_left; · intro w0 _; go_simp; try with_reducible rfl
  try simp only [Act.put, List.setIfInBounds_toArray, List.set_cons_zero, List.set_cons_succ]
  refine Go_.take (i := 6) (oi := ⟨some 55, Op.move (Operand.tmp 11), 3, _, _, none⟩) (v := ?_) rfl (by kernel_rfl) (by kernel_rfl) (by kernel_rfl) rfl (fun _ _ _ h => h) (Or.inl ⟨by rfl, ?_⟩) ?_
  rotate_left; · intro w0 _; go_simp; try with_reducible rfl
  try simp only [Act.put, List.setIfInBounds_toArray, List.set_cons_zero, List.set_cons_succ]
  refine Go_.take (i := 7) (oi := ⟨some 56, Op.indexAddr 75 (Operand.tmp 54) (Operand.tmp 55), 0, _, _, none⟩) (v := ?_) rfl (by kernel_rfl) (by kernel_rfl) (by kernel_rfl) rfl (fun _ _ _ h => h) (Or.inl ⟨by rfl, ?_⟩) ?_
  rotate_left; · intro w0 _; go_simp; try with_reducible rfl
  try simp only [Act.put, List.setIfInBounds_toArray, List.set_cons_zero, List.set_cons_succ]
  refine Go_.take (i := 8) (oi := ⟨some 57, Op.load 81 (Operand.tmp 56), 81, _, _, none⟩) (v := ?_) rfl (by kernel_rfl) (by kernel_rfl) (by kernel_rfl) rfl (fun _ _ _ h => h) (Or.inl ⟨by rfl, ?_⟩) ?_
  rotate_left; · intro w0 hS; have hsr0 := HB.out.sr.below hS; have hcB := hsr0.cells0 wi hq0; go_simp; try with_reducible rfl
  try simp only [Act.put, List.setIfInBounds_toArray, List.set_cons_zero, List.set_cons_succ]
  refine Go_.take (i := 11) (oi := ⟨some 60, Op.move (Operand.tmp 10), 75, _, _, none⟩) (v := ?_) rfl (by kernel_rfl) (by kernel_rfl) (by kernel_rfl) rfl (fun _ _ _ h => h) (Or.inl ⟨by rfl, ?_⟩) ?_
  rotate_left; · intro w0 _; go_simp; try with_reducible rfl
  try simp only [Act.put, List.setIfInBounds_toArray, List.set_cons_zero, List.set_cons_succ]
  refine Go_.take (i := 12) (oi := ⟨some 61, Op.move (Operand.tmp 11), 3, _, _, none⟩) (v := ?_) rfl (by kernel_rfl) (by kernel_rfl) (by kernel_rfl) rfl (fun _ _ _ h => h) (Or.inl ⟨by rfl, ?_⟩) ?_
  rotate_left; · intro w0 _; go_simp; try with_reducible rfl
  try simp only [Act.put, List.setIfInBounds_toArray, List.set_cons_zero, List.set_cons_succ]
  refine Go_.take (i := 13) (oi := ⟨some 62, Op.binOp BinOp.add 3 (Operand.tmp 61) (Operand.const (Value.int IntKind.i64 1)) 3, 3, _, _, none⟩) (v := ?_) rfl (by kernel_rfl) (by kernel_rfl) (by kernel_rfl) rfl (fun _ _ _ h => h) (Or.inl ⟨by rfl, ?_⟩) ?_
  rotate_left; · intro w0 _; go_simp; try with_reducible rfl
  try simp only [Act.put, List.setIfInBounds_toArray, List.set_cons_zero, List.set_cons_succ]
  refine Go_.take (i := 14) (oi := ⟨some 63, Op.slice 75 (Operand.tmp 60) (some (Operand.tmp 62)) none none, 75, _, _, none⟩) (v := ?_) rfl (by kernel_rfl) (by kernel_rfl) (by kernel_rfl) rfl (fun _ _ _ h => h) (Or.inl ⟨by rfl, ?_⟩) ?_
  rotate_left; · intro w0 _; go_simp; try with_reducible rfl
  try simp only [Act.put, List.setIfInBounds_toArray, List.set_cons_zero, List.set_cons_succ]
  refine Go_.step (i := 9) (o := ⟨some 58, Op.buildSlice 75 2 #[(0, Operand.tmp 53), (1, Operand.tmp 57)], 75, _, _, none⟩) (by kernel_rfl) rfl (fun K hT hK => ?_)
  replace hT := hT.1
  rw [if_pos (by rfl)]
  go_simp
  refine hK.out _ _ (Till.of (hT.alloc hT.size _)) ?_
  clear hT hK K
  refine Go_.step (i := 10) (o := ⟨some 59, Op.call { callee := Callee.builtin Builtin.append, args := #[Operand.tmp 49, Operand.tmp 58], argTypes := #[75, 75] }, 75, _, _, none⟩) (by kernel_rfl) rfl (fun K hT hK => ?_)
  replace hT := hT.1
  rw [if_pos (by rfl)]
  refine wp_appK (.tmp 49) (.tmp 58) rfl (by rfl) rfl HOB.out (by rfl) rfl HS11.out hlen11 hz2d ?_
  intro A3 c3 o3 w3 ho3 hO3 _ hg3
  have hb3 := hT.grown hg3 hz2d (fun q hq => (HOB.out.lt q hq).1)
  have ho3l : o3.length ≤ 1000 := by rw [ho3.out, List.length_append, HO2.out]; simp; omega
  have hSg16 : Sgs w3 (some ⟨g, (wi + 1) * 4, none⟩) (r.drop (wi + 1)) := (HB.out.sr.dropAt (wi + 1) (by rw [hrl.out]; omega)).below hb3
  refine hK.out _ _ (Till.of hb3) ?_
  clear hT hK K
  refine Go_.step (i := 15) (o := ⟨some 64, Op.call { callee := Callee.builtin Builtin.append, args := #[Operand.tmp 59, Operand.tmp 63], argTypes := #[75, 75] }, 75, _, _, none⟩) (by kernel_rfl) rfl (fun K hT hK => ?_)
  replace hT := hT.1
  rw [if_pos (by rfl)]
  refine wp_appK (.tmp 59) (.tmp 63) rfl (by rfl) rfl hO3 (by rfl) (by rw [List.length_drop, hrl.out]; omega) hSg16 (by rw [List.length_drop, hrl.out]; omega) hb3.size ?_
  intro A4 c4 o4 w4 ho4 hO4 _ hg4
  have hb4 := hT.grown hg4 hb3.size (fun q hq => (hO3.lt q hq).1)
  refine hK.out _ _ (Till.of hb4) ?_
  clear hT hK K
  refine Go_.take (i := 16) (oi := ⟨some 12, Op.assign (Operand.tmp 64), 75, _, _, none⟩) (v := ?_) rfl (by kernel_rfl) (by kernel_rfl) (by kernel_rfl) rfl (fun _ _ _ h => h) (Or.inl ⟨by rfl, ?_⟩) ?_
  rotate_left; · intro w0 _; go_simp; try with_reducible rfl
  try simp only [Act.put, List.setIfInBounds_toArray, List.set_cons_zero, List.set_cons_succ]
  refine Go_.doneA (by kernel_rfl) (fun _ => ?_)
  have ho4e : o4 = r.take wi ++ [r[wi], r[wi]] ++ r.drop (wi + 1) := by rw [ho4.out, ho3.out, ho2.out]; rfl
  obtain ⟨D, hD⟩ : ∃ D, Hid (D = (rowD l).take wi ++ [(rowD l)[wi], (rowD l)[wi]] ++ (rowD l).drop (wi + 1)) := ⟨_, Lib.hid rfl⟩
  have hord := ord_2 l hl6 h300.out wi hwi hd0 D hD.out
  have hkey4 : Hid (o4.map SegV.key = D.map SegD.key) := by
    rw [ho4e, hD.out]
    exact Lib.hid (by
    have hka : (r[wi]).key = ((rowD l)[wi]).key := by
      have h2 := congrArg (fun x => x[wi]?) hkr.out
      simp only [List.getElem?_map, List.getElem?_eq_getElem hq0, List.getElem?_eq_getElem hd0, Option.map_some, Option.some.injEq] at h2
      exact h2
    simp only [List.map_append, List.map_take, List.map_drop, hkr.out, List.map_cons, List.map_nil, hka])
  have hbod4 : Hid (∀ s ∈ o4, Bts w1 s.A s.body) := Lib.hid (mem_map_key HB.out.br (fun s hs => by
    rw [ho4e] at hs
    simp only [List.mem_append, List.mem_cons, List.not_mem_nil, or_false] at hs
    rcases hs with (h | h) | h
    · exact List.mem_of_mem_take h
    · rcases h with rfl | rfl <;> exact List.getElem_mem _
    · exact List.mem_of_mem_drop h))
  have hlen4 : o4.length ≤ 9 := by
    rw [ho4e]
    simp only [List.length_append, List.length_take, List.length_drop, List.length_cons, List.length_nil]
    have := hrl.out
    omega
  have hDl : Hid (D.length = o4.length) := by
    have := congrArg List.length hkey4.out
    simp only [List.length_map] at this
    exact Lib.hid this.symm
  have HORD := Lib.hid hord
  have HE := Lib.hid ho4e
  clear hord ho4e ho4 ho2 hO2 hg4 hz2 hb3 hSg16 hO3 hg3 ho3 ho3l HS11 HOB HBC HB2
  go_wp2_with fail
  go_loopw [13, 14] (fun v x wr => ∃ (i : Nat) (A5 : Option Addr) (c5 : Nat) (rb : List UInt8), i ≤ o4.length ∧ v = .slice A5 rb.length c5 ∧ x = .int .i64 i ∧ Hid (rb = catS k (D.take i)) ∧ rb.length ≤ 345 * i ∧ Own wr w1.heap.size A5 c5 rb ∧ OwnS wr w1.heap.size A4 c4 o4 ∧ Below w1.heap.size w1 wr) (fun _ x _ => o4.length - (intOf x).toNat)
  case atStart => exact ⟨0, none, 0, [], by omega, rfl, rfl, Lib.hid (by simp [catS]), by simp, Own.nil _ _, hO4, hb4⟩
  case round =>
    clear hO4 hb4
    obtain ⟨i, A5, c5, rb, hi, rfl, rfl, hrb, hrbl, ho, hO, hb⟩ := hrel
    by_cases hlt : i < o4.length
    · have hiD : i < D.length := by rw [hDl.out]; exact hlt
      have hkd : Hid ((o4[i]).key = (D[i]).key) := by
        have h2 := congrArg (fun x => x[i]?) hkey4.out
        simp only [List.getElem?_map, List.getElem?_eq_getElem hlt, List.getElem?_eq_getElem hiD, Option.map_some, Option.some.injEq] at h2
        exact Lib.hid h2
      have hgd : Hid (D[i]).good := HORD.out.1.1 _ (List.getElem_mem hiD)
      have hBi : Hid (Bts w1 o4[i].A o4[i].body) := hbod4.out _ (List.getElem_mem hlt)
      have hct := Lib.hid (catS_take k D i hiD)
      have hbl := Lib.hid (bytes_len k D[i] hgd.out).1
      have hsg := hO.sgs
      obtain ⟨b4, f4, rfl, _⟩ := hsg.some (by omega)
      have HW := Lib.hid (And.intro hb hsg)
      clear hb hsg
      go_wp2_with fail
      refine wp_region_till 11 (fun w' => Below w1.heap.size w1 w' ∧ Sgs w' (some ⟨b4, f4, none⟩) o4) (fun _ => True) (by kernel_rfl) (⟨HW.out.1.drew, HW.out.2⟩) trivial ?_
      show Go_ _ _ _ _ _ _ _ _ _ _ (World.drew _)
      refine Go_.take (i := 0) (oi := ⟨some 99, Op.load 28 (Operand.tmp 9), 28, _, _, none⟩) (v := ?_) rfl (by kernel_rfl) (by kernel_rfl) (by kernel_rfl) rfl (fun _ _ _ h => h) (Or.inl ⟨by rfl, ?_⟩) ?_
      rotate_left; · intro w0 hS; obtain ⟨hbw, hsg⟩ : Below w1.heap.size w1 w0 ∧ Sgs w0 (some ⟨b4, f4, none⟩) o4 := hS; have h8 := (HB.out.kh.belowW hbw).eight; have hcs := hsg.cells i hlt; go_simp; try with_reducible rfl
      try simp only [Act.put, List.setIfInBounds_toArray, List.set_cons_zero, List.set_cons_succ]
      refine Go_.take (i := 1) (oi := ⟨some 100, Op.move (Operand.tmp 12), 75, _, _, none⟩) (v := ?_) rfl (by kernel_rfl) (by kernel_rfl) (by kernel_rfl) rfl (fun _ _ _ h => h) (Or.inl ⟨by rfl, ?_⟩) ?_
      rotate_left; · intro w0 _; go_simp; try with_reducible rfl
      try simp only [Act.put, List.setIfInBounds_toArray, List.set_cons_zero, List.set_cons_succ]
      refine Go_.take (i := 2) (oi := ⟨some 101, Op.move (Operand.tmp 14), 3, _, _, none⟩) (v := ?_) rfl (by kernel_rfl) (by kernel_rfl) (by kernel_rfl) rfl (fun _ _ _ h => h) (Or.inl ⟨by rfl, ?_⟩) ?_
      rotate_left; · intro w0 _; go_simp; try with_reducible rfl
      try simp only [Act.put, List.setIfInBounds_toArray, List.set_cons_zero, List.set_cons_succ]
      refine Go_.take (i := 3) (oi := ⟨some 102, Op.indexAddr 75 (Operand.tmp 100) (Operand.tmp 101), 0, _, _, none⟩) (v := ?_) rfl (by kernel_rfl) (by kernel_rfl) (by kernel_rfl) rfl (fun _ _ _ h => h) (Or.inl ⟨by rfl, ?_⟩) ?_
      rotate_left; · intro w0 _; go_simp; try with_reducible rfl
      try simp only [Act.put, List.setIfInBounds_toArray, List.set_cons_zero, List.set_cons_succ]
      refine Go_.take (i := 4) (oi := ⟨some 103, Op.load 81 (Operand.tmp 102), 81, _, _, none⟩) (v := ?_) rfl (by kernel_rfl) (by kernel_rfl) (by kernel_rfl) rfl (fun _ _ _ h => h) (Or.inl ⟨by rfl, ?_⟩) ?_
      rotate_left; · intro w0 hS; obtain ⟨hbw, hsg⟩ : Below w1.heap.size w1 w0 ∧ Sgs w0 (some ⟨b4, f4, none⟩) o4 := hS; have h8 := (HB.out.kh.belowW hbw).eight; have hcs := hsg.cells i hlt; go_simp; try with_reducible rfl
      try simp only [Act.put, List.setIfInBounds_toArray, List.set_cons_zero, List.set_cons_succ]
      refine Go_.step (i := 5) (o := ⟨some 104, Op.call { callee := Callee.value (Operand.func 54), args := #[Operand.tmp 99, Operand.tmp 103], argTypes := #[28, 81] }, 78, _, _, none⟩) (by kernel_rfl) rfl (fun K hT hK => ?_)
      replace hT := hT.1
      rw [if_pos (by rfl)]
      go_simp
      refine (so_put k o4[i] D[i] hkd hgd _ (hBi.out.below hT.1)).mono ?_
      rintro e w6 ⟨A6, c6, rp, hrp, rfl, hB6, hb6⟩
      refine hK.out _ _ (Till.of ⟨hT.1.trans (hb6.mono hT.1.size), hT.2.below hb6⟩) ?_
      clear hT hK K
      refine Go_.take (i := 6) (oi := ⟨some 98, Op.move (Operand.tmp 104), 78, _, _, none⟩) (v := ?_) rfl (by kernel_rfl) (by kernel_rfl) (by kernel_rfl) rfl (fun _ _ _ h => h) (Or.inl ⟨by rfl, ?_⟩) ?_
      rotate_left; · intro w0 _; go_simp; try with_reducible rfl
      try simp only [Act.put, List.setIfInBounds_toArray, List.set_cons_zero, List.set_cons_succ]
      refine Go_.take (i := 7) (oi := ⟨some 105, Op.extract (Operand.tmp 98) 0, 24, _, _, none⟩) (v := ?_) rfl (by kernel_rfl) (by kernel_rfl) (by kernel_rfl) rfl (fun _ _ _ h => h) (Or.inl ⟨by rfl, ?_⟩) ?_
      rotate_left; · intro w0 _; go_simp; try with_reducible rfl
      try simp only [Act.put, List.setIfInBounds_toArray, List.set_cons_zero, List.set_cons_succ]
      refine Go_.take (i := 8) (oi := ⟨some 106, Op.extract (Operand.tmp 98) 1, 3, _, _, none⟩) (v := ?_) rfl (by kernel_rfl) (by kernel_rfl) (by kernel_rfl) rfl (fun _ _ _ h => h) (Or.inl ⟨by rfl, ?_⟩) ?_
      rotate_left; · intro w0 _; go_simp; try with_reducible rfl
      try simp only [Act.put, List.setIfInBounds_toArray, List.set_cons_zero, List.set_cons_succ]
      refine Go_.take (i := 9) (oi := ⟨some 15, Op.assign (Operand.tmp 105), 24, _, _, none⟩) (v := ?_) rfl (by kernel_rfl) (by kernel_rfl) (by kernel_rfl) rfl (fun _ _ _ h => h) (Or.inl ⟨by rfl, ?_⟩) ?_
      rotate_left; · intro w0 _; go_simp; try with_reducible rfl
      try simp only [Act.put, List.setIfInBounds_toArray, List.set_cons_zero, List.set_cons_succ]
      refine Go_.take (i := 10) (oi := ⟨some 16, Op.assign (Operand.tmp 106), 3, _, _, none⟩) (v := ?_) rfl (by kernel_rfl) (by kernel_rfl) (by kernel_rfl) rfl (fun _ _ _ h => h) (Or.inl ⟨by rfl, ?_⟩) ?_
      rotate_left; · intro w0 _; go_simp; try with_reducible rfl
      try simp only [Act.put, List.setIfInBounds_toArray, List.set_cons_zero, List.set_cons_succ]
      refine Go_.doneA (by kernel_rfl) (fun hA => ?_)
      have ho6 := ho.drew.below hb6
      have hO6 := Lib.hid (hO.drew.below hb6)
      have hz6 := hA.1.size
      have HA := Lib.hid hA
      have hrpl : rp.length ≤ 345 := by rw [hrp.out]; exact hbl.out
      clear hb6 hA
      go_wp2_with (at_builtin; refine wpList_app rfl (.tmp 109) (.tmp 110) rfl (by rfl) ho6 (by rfl) hB6 (by omega) hz6 ?_; intro A7 c7 r7 w7 hr7 ho7 hg7 ha7)
      go_round
      case rel =>
        have hr7l : r7.length = rb.length + rp.length := by rw [hr7.out, List.length_append]
        refine ⟨i + 1, A7, c7, r7, by omega, rfl, by go_num, Lib.hid ?_, by omega, ho7, hO6.out.grownB ho6 hg7, HA.out.1.grown hg7 hz6 (fun q hq => (ho6.lt q hq).1)⟩
        rw [hr7.out, hct.out, hrb.out, hrp.out]
      case measure => simp [intOf]; omega
    · obtain rfl : i = o4.length := by omega
      have hrb2 : Hid (rb = catS k D) := by rw [hrb.out, ← hDl.out, List.take_length]; exact rfl
      have hBb := ho.bts
      have hcap := ho.cap
      have h8 := (HB.out.kh.belowW hb).eight
      have HW := Lib.hid hb
      clear ho hO hrb hb
      go_wp2_with fail
      refine (so_all k D (wi + 1) (Lib.hid HORD.out.1) A5 rb c5 _ hrb2 (by omega) hcap hBb).mono ?_
      rintro e w8 ⟨A8, c8, segs, to, hks, hsl, rfl, hs8, hbs8, hb8⟩
      have HM := Lib.hid (And.intro hs8 (And.intro hbs8 (HW.out.trans (hb8.mono HW.out.size))))
      clear hs8 hbs8 hb8 h8 hBb HW
      have hnn : ((l.length : Int) + 1) = (l.length : Int) + 1 := rfl
      go_wp2_with fail
      refine (told17 _).mono ?_
      rintro e w9 ⟨rfl, hb9⟩
      have HP : Hid (SgP w9 A8 (some ⟨g, 0, none⟩) segs (r.take (wi + 1)) w9 ∧ Below w1.heap.size w1 w9) := Lib.hid ⟨⟨HM.out.1.below hb9, (HB.out.sr.take (wi + 1)).below (HM.out.2.2.trans (hb9.mono HM.out.2.2.size)), fun s hs => (HM.out.2.1 s hs).below hb9, fun s hs => (HB.out.br s (List.mem_of_mem_take hs)).below (HM.out.2.2.trans (hb9.mono HM.out.2.2.size)), Below.refl _ _⟩, HM.out.2.2.trans (hb9.mono HM.out.2.2.size)⟩
      have hkk : Hid (segs.map SegV.key = (r.take (wi + 1)).map SegV.key) := by
        rw [hks.out, HORD.out.2, List.map_take, List.map_take, hkr.out]
        exact Lib.hid rfl
      have hrt : Hid ((r.take (wi + 1)).length = wi + 1) := by rw [List.length_take, hrl.out]; exact Lib.hid (by omega)
      clear hb9 HM
      have hcn : ((wi + 1 : Nat) : Int) ≤ (cr : Int) := by omega
      have hcz : ¬ cr = 0 := by omega
      go_wp2_with fail
      refine (so_segs (wi + 1) (wi + 1) _ _ _ _ hsl hrt _ _ _ (by omega) hkk HP.out.1).mono ?_
      rintro e wf ⟨rfl, hbf⟩
      have hfin := HB.out.wh.trans ((HP.out.2.trans (hbf.mono HP.out.2.size)).mono hz1)
      clear hbf HP
      go_wp2_with fail
      go_ret
      exact ⟨ret_bool17 (by simp), hfin⟩
set_option maxRecDepth 20000 in
set_option maxHeartbeats 4000000 in
theorem sod_bad (k : K8) (A : Option Addr) (l : List SegV) (c : Nat) (wh how : Int) (w : World) (hl : l.length ≤ 9223372036854775807) (hS : Sgs w A l) (hbad : ¬ ((∀ s ∈ l, s.body.length ≤ 300) ∧ l.length ≤ 6) ∨ (((∀ s ∈ l, s.body.length ≤ 300) ∧ l.length ≤ 6) ∧ l.length = 0)) :
    Calls Try.prog 21 #[.agg #[.int .u32 (W k.k0), .int .u32 (W k.k1), .int .u32 (W k.k2), .int .u32 (W k.k3), .int .u32 (W k.k4), .int .u32 (W k.k5), .int .u32 (W k.k6), .int .u32 (W k.k7)], .slice A l.length c, .int .i64 wh, .int .i64 how] w fun e w' => e = .returned (.bool true) ∧ Below w.heap.size w w' := by
  have hb0 : Below w.heap.size w (w.alloc (.cells #[.int .u32 (W k.k0), .int .u32 (W k.k1), .int .u32 (W k.k2), .int .u32 (W k.k3), .int .u32 (W k.k4), .int .u32 (W k.k5), .int .u32 (W k.k6), .int .u32 (W k.k7)] 23)) := (Below.refl _ _).alloc (Nat.le_refl _) _
  have hSA := hS.below hb0
  rcases hbad with h | ⟨h, h0⟩
  · have hd := Lib.hid (decide_eq_false h)
    clear h
    go_enter Try.func21, Try.ntmps21
    go_wp2_with fail
    refine (few_any A l c 6 _ hl hSA).mono ?_
    rintro e w9 ⟨rfl, rfl⟩
    rw [hd.out]
    go_wp2_with fail
    refine (told17 _).mono ?_
    rintro e w1 ⟨rfl, hb1⟩
    go_wp2_with fail
    go_ret
    exact ⟨rfl, hb0.trans (hb1.mono hb0.size)⟩
  · have hd := Lib.hid (decide_eq_true h)
    have hlI : (l.length : Int) < 1 := by omega
    clear h h0
    go_enter Try.func21, Try.ntmps21
    go_wp2_with fail
    refine (few_any A l c 6 _ hl hSA).mono ?_
    rintro e w9 ⟨rfl, rfl⟩
    rw [hd.out]
    go_wp2_with fail
    refine (told17 _).mono ?_
    rintro e w1 ⟨rfl, hb1⟩
    go_wp2_with fail
    go_ret
    exact ⟨rfl, hb0.trans (hb1.mono hb0.size)⟩
theorem walk_SealOrders (k : K8) (A : Option Addr) (l : List SegV) (c : Nat) (wh how : Int) (w : World) (hS : Sgs w A l) (hB : ∀ s ∈ l, SegOk w s) (hlc : l.length ≤ c) (hc : c ≤ maxLen) (_h1 : -9223372036854775808 ≤ wh ∧ wh < 9223372036854775808) (_h2 : -9223372036854775808 ≤ how ∧ how < 9223372036854775808) :
    Calls Try.prog 21 #[.agg k.vals.toArray, .slice A l.length c, .int .i64 wh, .int .i64 how] w fun e w' => e = .returned (.bool true) ∧ Below w.heap.size w w' := by
  have hl : l.length ≤ 9223372036854775807 := by simp only [maxLen] at hc; omega
  by_cases hf : (∀ s ∈ l, s.body.length ≤ 300) ∧ l.length ≤ 6
  · by_cases h0 : l.length = 0
    · exact sod_bad k A l c wh how w hl hS (.inr ⟨hf, h0⟩)
    · obtain ⟨wi, hw, hw2⟩ := utmod wh l.length (by omega)
      obtain ⟨x, hx, hx2⟩ := utmod how 3 (by omega)
      have hBl : Hid (∀ s ∈ l, Bts w s.A s.body) := Lib.hid fun s hs => (hB s hs).1
      obtain rfl | rfl | rfl : x = 0 ∨ x = 1 ∨ x = 2 := by omega
      · exact sod_0 k A l c wh how wi w (by omega) hf.2 (Lib.hid hf.1) hS hBl hw hw2 hx2
      · exact sod_1 k A l c wh how wi w (by omega) hf.2 (Lib.hid hf.1) hS hBl hw hw2 hx2
      · exact sod_2 k A l c wh how wi w (by omega) hf.2 (Lib.hid hf.1) hS hBl hw hw2 hx2
  · exact sod_bad k A l c wh how w hl hS (.inl hf)
end Go.Proofs.Ytcdklmicbbcknaa
