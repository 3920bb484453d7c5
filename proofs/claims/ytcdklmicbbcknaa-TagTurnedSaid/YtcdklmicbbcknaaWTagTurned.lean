/-
  steamerlaw15.TagTurned answers true and leaves old memory as it was: by a walk of its text (printed by tagturned.py).
-/
import Derived.Test.YtcdklmicbbcknaaRt
import Derived.Test.YtcdklmicbbcknaaTt
import Derived.Test.YtcdklmicbbcknaaPt
namespace Go.Proofs.Ytcdklmicbbcknaa
open Go Go.RowKit
section
variable (k : K8) (p : Int) (A : Option Addr) (l : List UInt8) (N c : Nat) (hN : Hid (N = l.length)) (hl : N ≤ 200) (w : World) (hB : Bts w A l)
include hN hl hB
theorem tt_of (T : List UInt8) (hT : Hid (T = tagL k p l)) : Calls Try.prog 25 #[.agg #[.int .u32 (W k.k0), .int .u32 (W k.k1), .int .u32 (W k.k2), .int .u32 (W k.k3), .int .u32 (W k.k4), .int .u32 (W k.k5), .int .u32 (W k.k6), .int .u32 (W k.k7)], .int .i64 p, .slice A N c] w fun e w' => e = .returned (.agg (bvals T).toArray) ∧ Below w.heap.size w w' := by
  obtain rfl := hT.out
  obtain rfl := hN.out
  exact of_any k p A l c w (by omega) hB
theorem tt_sum (r s u : BitVec 32) (hU : Hid (u = sumW r s l)) : Calls Try.prog 26 #[.int .u32 (W r), .int .u32 (W s), .slice A N c] w fun e w' => e = .returned (.int .u32 (W u)) ∧ w = w' := by
  obtain rfl := hU.out
  obtain rfl := hN.out
  exact sum_any r s A l c w (by omega) hB
end
theorem tt_same (T U : List UInt8) (hT : T.length = 8) (hU : U.length = 8) (b : Bool) (hb : Hid (b = decide (T = U))) (w : World) : Calls Try.prog 29 #[.agg (bvals T).toArray, .agg (bvals U).toArray] w fun e w' => e = .returned (.bool b) ∧ Below w.heap.size w w' := by
  obtain rfl := hb.out
  exact same_bytes T U hT hU w
theorem tt_idx (n : Int) (m : Nat) (h0 : 0 < m) (h : m ≤ 200) : ∃ i : Nat, i < m ∧ (IntKind.u64.wrap n).tmod (m : Int) = (i : Int) ∧ wrap64 (i : Int) = (i : Int) := by
  obtain ⟨i, h1, h2⟩ := utmod n m h0
  exact ⟨i, h1, h2, by simp [wrap64]; omega⟩
theorem ret_boolT {b : Bool} (h : b = true) : Ending.returned (.bool b) = .returned (.bool true) := by rw [h]
set_option maxRecDepth 20000 in
set_option maxHeartbeats 8000000 in
theorem walk_TagTurned (r s : BitVec 32) (k : K8) (p : Int) (A : Option Addr) (l : List UInt8) (c : Nat) (n : Int) (d : UInt8) (w : World) (_hp : -9223372036854775808 ≤ p ∧ p < 9223372036854775808) (hB : Bts w A l) (_hl : l.length ≤ c) (_hc : c ≤ maxLen) (_hn : -9223372036854775808 ≤ n ∧ n < 9223372036854775808) :
    Calls Try.prog 4 #[.int .u32 (W r), .int .u32 (W s), .agg k.vals.toArray, .int .i64 p, .slice A l.length c, .int .i64 n, .int .u8 (d.toNat : Int)] w fun e w' => e = .returned (.bool true) ∧ Below w.heap.size w w' := by
  have hb0 : Below w.heap.size w (w.alloc (.cells k.vals.toArray 23)) := (Below.refl _ _).alloc (Nat.le_refl _) _
  by_cases h200 : l.length < 1 ∨ 200 < l.length
  · unfold K8.vals at *
    go_enter Try.func4, Try.ntmps4
    rcases h200 with h200 | h200
    all_goals (
      go_wp2_with fail
      refine (told15 _).mono ?_
      rintro e w1 ⟨rfl, hb1⟩
      go_wp2
      go_ret
      exact ⟨rfl, hb0.trans (hb1.mono (by simp))⟩)
  · have hl2 : l.length ≤ 200 := by omega
    have hl1 : 1 ≤ l.length := by omega
    obtain ⟨i, hi, hi2, hi3⟩ := tt_idx n l.length (by omega) hl2
    have hk0 := Holds.newAt w 23 [.int .u32 (W k.k0), .int .u32 (W k.k1), .int .u32 (W k.k2), .int .u32 (W k.k3), .int .u32 (W k.k4), .int .u32 (W k.k5), .int .u32 (W k.k6), .int .u32 (W k.k7)] (n := w.heap.size) rfl
    have ho0 := Own.made (w.alloc (.cells #[.int .u32 (W k.k0), .int .u32 (W k.k1), .int .u32 (W k.k2), .int .u32 (W k.k3), .int .u32 (W k.k4), .int .u32 (W k.k5), .int .u32 (W k.k6), .int .u32 (W k.k7)] 23)) (w.heap.size + 1) (by simp) [] (by simp)
    rw [show (w.alloc (.cells #[.int .u32 (W k.k0), .int .u32 (W k.k1), .int .u32 (W k.k2), .int .u32 (W k.k3), .int .u32 (W k.k4), .int .u32 (W k.k5), .int .u32 (W k.k6), .int .u32 (W k.k7)] 23)).heap.size = w.heap.size + 1 by simp] at ho0
    have hB0 := (hB.alloc (.cells #[.int .u32 (W k.k0), .int .u32 (W k.k1), .int .u32 (W k.k2), .int .u32 (W k.k3), .int .u32 (W k.k4), .int .u32 (W k.k5), .int .u32 (W k.k6), .int .u32 (W k.k7)] 23)).alloc (.cells (bvals []).toArray 5)
    unfold K8.vals at *
    clear h200
    go_enter Try.func4, Try.ntmps4
    go_wp2_with (at_builtin; refine wpList_app (w := (w.alloc (.cells #[.int .u32 (W k.k0), .int .u32 (W k.k1), .int .u32 (W k.k2), .int .u32 (W k.k3), .int .u32 (W k.k4), .int .u32 (W k.k5), .int .u32 (W k.k6), .int .u32 (W k.k7)] 23)).alloc (.cells (bvals []).toArray 5)) rfl (.tmp 33) (.tmp 34) rfl (by rfl) ho0 (by rfl) hB0 (by simp; omega) (by simp) ?_; intro A1 c1 r1 w2 hr1 ho1 hg1 ha1; obtain rfl : l = r1 := hr1.out.symm; obtain ⟨g, rfl, hgl, hgs⟩ := ho1.addr hl1; have hci := ho1.cell i hi; have hfi := ho1.free i)
    have hset := (ho1.set i d).bts
    have hbw2 : Below w.heap.size w w2 := (hb0.alloc (by simp) (.cells (bvals []).toArray 5)).grown hg1 (by simp; omega) (by intro k hk; have e := Option.some.inj hk; subst e; exact Nat.le_succ _)
    have hbw3 := (hbw2.setCell (p := ⟨g, i, none⟩) (by show w.heap.size ≤ g; omega) (.int .u8 (d.toNat : Int)))
    have hBl := hB.below hbw3
    have hk1 : Holds w2 w.heap.size 23 [.int .u32 (W k.k0), .int .u32 (W k.k1), .int .u32 (W k.k2), .int .u32 (W k.k3), .int .u32 (W k.k4), .int .u32 (W k.k5), .int .u32 (W k.k6), .int .u32 (W k.k7)] := (hk0.alloc (.cells (bvals []).toArray 5)).grown hg1 (by simp [blk])
    have hk2 : Holds (w2.setCell ⟨g, i, none⟩ (.int .u8 (d.toNat : Int))) w.heap.size 23 [.int .u32 (W k.k0), .int .u32 (W k.k1), .int .u32 (W k.k2), .int .u32 (W k.k3), .int .u32 (W k.k4), .int .u32 (W k.k5), .int .u32 (W k.k6), .int .u32 (W k.k7)] := hk1.far (p := ⟨g, i, none⟩) (by show w.heap.size ≠ g; omega) _
    obtain ⟨b, o, rfl, hbs, hcs⟩ := hB (by omega)
    have hcy := hbw3.cell (p := ⟨b, o + i, none⟩) hbs |>.trans (hcs i hi)
    obtain ⟨X, hX⟩ : ∃ X, Hid (X = l.set i d) := ⟨_, rfl⟩
    have hXl : Hid (l.length = X.length) := Lib.hid (by rw [hX.out, List.length_set])
    rw [← hX.out] at hset
    obtain ⟨y, hy⟩ : ∃ y, Hid (y = l.getD i 0) := ⟨_, rfl⟩
    rw [← hy.out] at hcy
    clear hci hfi hk1 hbw2 hg1 ha1 ho0 ho1 hB0 hk0 hb0 hcs hB hi2 hi3
    generalize w2.setCell ⟨g, i, none⟩ (.int .u8 (d.toNat : Int)) = wx at hset hBl hbw3 hk2 hcy ⊢
    have HS := Lib.hid (And.intro hk2.drew (And.intro hBl.drew (And.intro hset.drew (And.intro hcy hbw3.drew))))
    clear hk2 hBl hset hcy hbw3
    obtain ⟨u, hu⟩ : ∃ u, Hid (u = sumW r s X) := ⟨_, rfl⟩
    obtain ⟨v, hv⟩ : ∃ v, Hid (v = sumW r s l) := ⟨_, rfl⟩
    obtain ⟨T, hT⟩ : ∃ T, Hid (T = tagL k p X) := ⟨_, rfl⟩
    obtain ⟨U, hU⟩ : ∃ U, Hid (U = tagL k p l) := ⟨_, rfl⟩
    have hTl : T.length = 8 := by rw [hT.out, tagL_len]
    have hUl : U.length = 8 := by rw [hU.out, tagL_len]
    obtain ⟨bb, h1, h2, h3⟩ : ∃ bb : Bool, Hid ((W u == W v) = bb) ∧ Hid (((d.toNat : Int) == (y.toNat : Int)) = bb) ∧ Hid (bb = decide (T = U)) := by
      rw [hu.out, hv.out, hT.out, hU.out, hX.out, hy.out]
      by_cases hd : d = l.getD i 0
      · subst hd
        exact ⟨true, Lib.hid (by rw [set_same l i hi]; simp), Lib.hid (by simp), Lib.hid (by rw [set_same l i hi]; simp)⟩
      · exact ⟨false, Lib.hid (beq_eq_false_iff_ne.2 fun e => hd (sumW_turned r s l i d hi (W_inj e))), Lib.hid (beq_eq_false_iff_ne.2 fun e => hd (toInt_inj.1 e)), Lib.hid (decide_eq_false fun e => hd (tagL_turned k p l i d hi e)).symm⟩
    have hTT := hT
    clear hX hy hT
    replace h1 := h1.out
    replace h2 := h2.out
    refine wp_region_till 38 (fun w' => Holds w' w.heap.size 23 [.int .u32 (W k.k0), .int .u32 (W k.k1), .int .u32 (W k.k2), .int .u32 (W k.k3), .int .u32 (W k.k4), .int .u32 (W k.k5), .int .u32 (W k.k6), .int .u32 (W k.k7)] ∧ Bts w' (some ⟨b, o, none⟩) l ∧ Bts w' (some ⟨g, 0, none⟩) X ∧ w'.cell? ⟨b, o + i, none⟩ = some (.int .u8 (y.toNat : Int)) ∧ Below w.heap.size w w') (fun _ => True) (by kernel_rfl) (HS.out) trivial ?_
    show Go_ _ _ _ _ _ _ _ _ _ _ (World.drew _)
    refine Go_.step (i := 0) (o := ⟨some 40, Op.call { callee := Callee.value (Operand.func 24), args := #[], argTypes := #[] }, 4, _, _, none⟩) (by kernel_rfl) rfl (fun K hT' hK => ?_)
    replace hT' := hT'.1
    rw [if_pos (by rfl)]
    go_simp
    refine (told15 _).mono ?_
    rintro e w' ⟨rfl, hbx⟩
    refine hK.out _ _ (Till.of ⟨hT'.1.below hbx hT'.1.lt, hT'.2.1.below hbx, hT'.2.2.1.below hbx, (hbx.cell (p := ⟨b, o + i, none⟩) (Nat.lt_of_lt_of_le hbs hT'.2.2.2.2.size)).trans hT'.2.2.2.1, hT'.2.2.2.2.trans (hbx.mono hT'.2.2.2.2.size)⟩) ?_
    clear hT' hK K
    refine Go_.take (i := 1) (oi := ⟨some 41, Op.move (Operand.tmp 40), 4, _, _, none⟩) (v := ?_) rfl (by kernel_rfl) (by kernel_rfl) (by kernel_rfl) rfl (fun _ _ _ h => h) (Or.inl ⟨by rfl, ?_⟩) ?_
    rotate_left; · intro w0 _; go_simp; try with_reducible rfl
    try simp only [Act.put, List.setIfInBounds_toArray, List.set_cons_zero, List.set_cons_succ]
    refine Go_.take (i := 2) (oi := ⟨some 42, Op.move (Operand.tmp 0), 22, _, _, some (1, true)⟩) (v := ?_) rfl (by kernel_rfl) (by kernel_rfl) (by kernel_rfl) rfl (fun _ _ _ h => h) (Or.inl ⟨by rfl, ?_⟩) ?_
    rotate_left; · intro w0 _; go_simp; try with_reducible rfl
    try simp only [Act.put, List.setIfInBounds_toArray, List.set_cons_zero, List.set_cons_succ]
    refine Go_.take (i := 3) (oi := ⟨some 43, Op.move (Operand.tmp 1), 22, _, _, some (1, true)⟩) (v := ?_) rfl (by kernel_rfl) (by kernel_rfl) (by kernel_rfl) rfl (fun _ _ _ h => h) (Or.inl ⟨by rfl, ?_⟩) ?_
    rotate_left; · intro w0 _; go_simp; try with_reducible rfl
    try simp only [Act.put, List.setIfInBounds_toArray, List.set_cons_zero, List.set_cons_succ]
    refine Go_.take (i := 4) (oi := ⟨some 44, Op.move (Operand.tmp 16), 24, _, _, some (1, true)⟩) (v := ?_) rfl (by kernel_rfl) (by kernel_rfl) (by kernel_rfl) rfl (fun _ _ _ h => h) (Or.inl ⟨by rfl, ?_⟩) ?_
    rotate_left; · intro w0 _; go_simp; try with_reducible rfl
    try simp only [Act.put, List.setIfInBounds_toArray, List.set_cons_zero, List.set_cons_succ]
    refine Go_.take (i := 6) (oi := ⟨some 46, Op.move (Operand.tmp 0), 22, _, _, some (1, true)⟩) (v := ?_) rfl (by kernel_rfl) (by kernel_rfl) (by kernel_rfl) rfl (fun _ _ _ h => h) (Or.inl ⟨by rfl, ?_⟩) ?_
    rotate_left; · intro w0 _; go_simp; try with_reducible rfl
    try simp only [Act.put, List.setIfInBounds_toArray, List.set_cons_zero, List.set_cons_succ]
    refine Go_.take (i := 7) (oi := ⟨some 47, Op.move (Operand.tmp 1), 22, _, _, some (1, true)⟩) (v := ?_) rfl (by kernel_rfl) (by kernel_rfl) (by kernel_rfl) rfl (fun _ _ _ h => h) (Or.inl ⟨by rfl, ?_⟩) ?_
    rotate_left; · intro w0 _; go_simp; try with_reducible rfl
    try simp only [Act.put, List.setIfInBounds_toArray, List.set_cons_zero, List.set_cons_succ]
    refine Go_.take (i := 8) (oi := ⟨some 48, Op.move (Operand.tmp 4), 24, _, _, some (1, true)⟩) (v := ?_) rfl (by kernel_rfl) (by kernel_rfl) (by kernel_rfl) rfl (fun _ _ _ h => h) (Or.inl ⟨by rfl, ?_⟩) ?_
    rotate_left; · intro w0 _; go_simp; try with_reducible rfl
    try simp only [Act.put, List.setIfInBounds_toArray, List.set_cons_zero, List.set_cons_succ]
    refine Go_.take (i := 11) (oi := ⟨some 51, Op.move (Operand.tmp 6), 5, _, _, some (1, true)⟩) (v := ?_) rfl (by kernel_rfl) (by kernel_rfl) (by kernel_rfl) rfl (fun _ _ _ h => h) (Or.inl ⟨by rfl, ?_⟩) ?_
    rotate_left; · intro w0 _; go_simp; try with_reducible rfl
    try simp only [Act.put, List.setIfInBounds_toArray, List.set_cons_zero, List.set_cons_succ]
    refine Go_.take (i := 12) (oi := ⟨some 52, Op.move (Operand.tmp 4), 24, _, _, some (1, true)⟩) (v := ?_) rfl (by kernel_rfl) (by kernel_rfl) (by kernel_rfl) rfl (fun _ _ _ h => h) (Or.inl ⟨by rfl, ?_⟩) ?_
    rotate_left; · intro w0 _; go_simp; try with_reducible rfl
    try simp only [Act.put, List.setIfInBounds_toArray, List.set_cons_zero, List.set_cons_succ]
    refine Go_.take (i := 13) (oi := ⟨some 53, Op.move (Operand.tmp 15), 3, _, _, some (1, true)⟩) (v := ?_) rfl (by kernel_rfl) (by kernel_rfl) (by kernel_rfl) rfl (fun _ _ _ h => h) (Or.inl ⟨by rfl, ?_⟩) ?_
    rotate_left; · intro w0 _; go_simp; try with_reducible rfl
    try simp only [Act.put, List.setIfInBounds_toArray, List.set_cons_zero, List.set_cons_succ]
    refine Go_.take (i := 14) (oi := ⟨some 54, Op.indexAddr 24 (Operand.tmp 52) (Operand.tmp 53), 0, _, _, some (1, true)⟩) (v := ?_) rfl (by kernel_rfl) (by kernel_rfl) (by kernel_rfl) rfl (fun _ _ _ h => h) (Or.inl ⟨by rfl, ?_⟩) ?_
    rotate_left; · intro w0 _; go_simp; try with_reducible rfl
    try simp only [Act.put, List.setIfInBounds_toArray, List.set_cons_zero, List.set_cons_succ]
    refine Go_.take (i := 15) (oi := ⟨some 55, Op.load 5 (Operand.tmp 54), 5, _, _, some (1, true)⟩) (v := ?_) rfl (by kernel_rfl) (by kernel_rfl) (by kernel_rfl) rfl (fun _ _ _ h => h) (Or.inl ⟨by rfl, ?_⟩) ?_
    rotate_left; · intro w0 hS; obtain ⟨hH, hBB, hBX, hcy, hW⟩ := hS; have h8 := hH.eight; go_simp; try with_reducible rfl
    try simp only [Act.put, List.setIfInBounds_toArray, List.set_cons_zero, List.set_cons_succ]
    refine Go_.take (i := 16) (oi := ⟨some 56, Op.binOp BinOp.eql 5 (Operand.tmp 51) (Operand.tmp 55) 5, 4, _, _, some (1, true)⟩) (v := ?_) rfl (by kernel_rfl) (by kernel_rfl) (by kernel_rfl) rfl (fun _ _ _ h => h) (Or.inl ⟨by rfl, ?_⟩) ?_
    rotate_left; · intro w0 _; go_simp; try with_reducible rfl
    try simp only [Act.put, List.setIfInBounds_toArray, List.set_cons_zero, List.set_cons_succ]
    refine Go_.step (i := 5) (o := ⟨some 45, Op.call { callee := Callee.value (Operand.func 26), args := #[Operand.tmp 42, Operand.tmp 43, Operand.tmp 44], argTypes := #[22, 22, 24] }, 22, _, _, some (1, true)⟩) (by kernel_rfl) rfl (fun K hT' hK => ?_)
    replace hT' := hT'.1
    rw [if_pos (by rfl)]
    go_simp
    refine (tt_sum _ X _ c1 hXl hl2 _ hT'.2.2.1 r s u hu).mono ?_
    rintro e w' ⟨rfl, rfl⟩
    refine hK.out _ _ (Till.of hT') ?_
    clear hT' hK K
    refine Go_.step (i := 9) (o := ⟨some 49, Op.call { callee := Callee.value (Operand.func 26), args := #[Operand.tmp 46, Operand.tmp 47, Operand.tmp 48], argTypes := #[22, 22, 24] }, 22, _, _, some (1, true)⟩) (by kernel_rfl) rfl (fun K hT' hK => ?_)
    replace hT' := hT'.1
    rw [if_pos (by rfl)]
    go_simp
    refine (tt_sum _ l _ c rfl hl2 _ hT'.2.1 r s v hv).mono ?_
    rintro e w' ⟨rfl, rfl⟩
    refine hK.out _ _ (Till.of hT') ?_
    clear hT' hK K
    refine Go_.take (i := 10) (oi := ⟨some 50, Op.binOp BinOp.eql 22 (Operand.tmp 45) (Operand.tmp 49) 22, 4, _, _, some (1, true)⟩) (v := ?_) rfl (by kernel_rfl) (by kernel_rfl) (by kernel_rfl) rfl (fun _ _ _ h => h) (Or.inl ⟨by rfl, ?_⟩) ?_
    rotate_left; · intro w0 _; go_simp; try with_reducible rfl
    try simp only [Act.put, List.setIfInBounds_toArray, List.set_cons_zero, List.set_cons_succ]
    refine Go_.take (i := 17) (oi := ⟨some 57, Op.binOp BinOp.eql 4 (Operand.tmp 50) (Operand.tmp 56) 4, 4, _, _, some (1, true)⟩) (v := ?_) rfl (by kernel_rfl) (by kernel_rfl) (by kernel_rfl) rfl (fun _ _ _ h => h) (Or.inl ⟨by rfl, ?_⟩) ?_
    rotate_left; · intro w0 _; go_simp; try with_reducible rfl
    try simp only [Act.put, List.setIfInBounds_toArray, List.set_cons_zero, List.set_cons_succ]
    refine Go_.take (i := 18) (oi := ⟨some 58, Op.pick (Operand.tmp 41) (Operand.tmp 57) (Operand.const (Value.bool false)), 4, _, _, none⟩) (v := ?_) rfl (by kernel_rfl) (by kernel_rfl) (by kernel_rfl) rfl (fun _ _ _ h => h) (Or.inl ⟨by rfl, ?_⟩) ?_
    rotate_left; · intro w0 _; go_simp; try with_reducible rfl
    try simp only [Act.put, List.setIfInBounds_toArray, List.set_cons_zero, List.set_cons_succ]
    refine Go_.take (i := 19) (oi := ⟨some 59, Op.move (Operand.tmp 58), 4, _, _, none⟩) (v := ?_) rfl (by kernel_rfl) (by kernel_rfl) (by kernel_rfl) rfl (fun _ _ _ h => h) (Or.inl ⟨by rfl, ?_⟩) ?_
    rotate_left; · intro w0 _; go_simp; try with_reducible rfl
    try simp only [Act.put, List.setIfInBounds_toArray, List.set_cons_zero, List.set_cons_succ]
    refine Go_.take (i := 20) (oi := ⟨some 60, Op.load 23 (Operand.tmp 9), 23, _, _, some (19, true)⟩) (v := ?_) rfl (by kernel_rfl) (by kernel_rfl) (by kernel_rfl) rfl (fun _ _ _ h => h) (Or.inl ⟨by rfl, ?_⟩) ?_
    rotate_left; · intro w0 hS; obtain ⟨hH, hBB, hBX, hcy, hW⟩ := hS; have h8 := hH.eight; go_simp; try with_reducible rfl
    try simp only [Act.put, List.setIfInBounds_toArray, List.set_cons_zero, List.set_cons_succ]
    refine Go_.take (i := 21) (oi := ⟨some 61, Op.move (Operand.tmp 3), 3, _, _, some (19, true)⟩) (v := ?_) rfl (by kernel_rfl) (by kernel_rfl) (by kernel_rfl) rfl (fun _ _ _ h => h) (Or.inl ⟨by rfl, ?_⟩) ?_
    rotate_left; · intro w0 _; go_simp; try with_reducible rfl
    try simp only [Act.put, List.setIfInBounds_toArray, List.set_cons_zero, List.set_cons_succ]
    refine Go_.take (i := 22) (oi := ⟨some 62, Op.move (Operand.tmp 16), 24, _, _, some (19, true)⟩) (v := ?_) rfl (by kernel_rfl) (by kernel_rfl) (by kernel_rfl) rfl (fun _ _ _ h => h) (Or.inl ⟨by rfl, ?_⟩) ?_
    rotate_left; · intro w0 _; go_simp; try with_reducible rfl
    try simp only [Act.put, List.setIfInBounds_toArray, List.set_cons_zero, List.set_cons_succ]
    refine Go_.take (i := 24) (oi := ⟨some 64, Op.load 23 (Operand.tmp 9), 23, _, _, some (19, true)⟩) (v := ?_) rfl (by kernel_rfl) (by kernel_rfl) (by kernel_rfl) rfl (fun _ _ _ h => h) (Or.inl ⟨by rfl, ?_⟩) ?_
    rotate_left; · intro w0 hS; obtain ⟨hH, hBB, hBX, hcy, hW⟩ := hS; have h8 := hH.eight; go_simp; try with_reducible rfl
    try simp only [Act.put, List.setIfInBounds_toArray, List.set_cons_zero, List.set_cons_succ]
    refine Go_.take (i := 25) (oi := ⟨some 65, Op.move (Operand.tmp 3), 3, _, _, some (19, true)⟩) (v := ?_) rfl (by kernel_rfl) (by kernel_rfl) (by kernel_rfl) rfl (fun _ _ _ h => h) (Or.inl ⟨by rfl, ?_⟩) ?_
    rotate_left; · intro w0 _; go_simp; try with_reducible rfl
    try simp only [Act.put, List.setIfInBounds_toArray, List.set_cons_zero, List.set_cons_succ]
    refine Go_.take (i := 26) (oi := ⟨some 66, Op.move (Operand.tmp 4), 24, _, _, some (19, true)⟩) (v := ?_) rfl (by kernel_rfl) (by kernel_rfl) (by kernel_rfl) rfl (fun _ _ _ h => h) (Or.inl ⟨by rfl, ?_⟩) ?_
    rotate_left; · intro w0 _; go_simp; try with_reducible rfl
    try simp only [Act.put, List.setIfInBounds_toArray, List.set_cons_zero, List.set_cons_succ]
    refine Go_.take (i := 29) (oi := ⟨some 69, Op.move (Operand.tmp 6), 5, _, _, some (19, true)⟩) (v := ?_) rfl (by kernel_rfl) (by kernel_rfl) (by kernel_rfl) rfl (fun _ _ _ h => h) (Or.inl ⟨by rfl, ?_⟩) ?_
    rotate_left; · intro w0 _; go_simp; try with_reducible rfl
    try simp only [Act.put, List.setIfInBounds_toArray, List.set_cons_zero, List.set_cons_succ]
    refine Go_.take (i := 30) (oi := ⟨some 70, Op.move (Operand.tmp 4), 24, _, _, some (19, true)⟩) (v := ?_) rfl (by kernel_rfl) (by kernel_rfl) (by kernel_rfl) rfl (fun _ _ _ h => h) (Or.inl ⟨by rfl, ?_⟩) ?_
    rotate_left; · intro w0 _; go_simp; try with_reducible rfl
    try simp only [Act.put, List.setIfInBounds_toArray, List.set_cons_zero, List.set_cons_succ]
    refine Go_.take (i := 31) (oi := ⟨some 71, Op.move (Operand.tmp 15), 3, _, _, some (19, true)⟩) (v := ?_) rfl (by kernel_rfl) (by kernel_rfl) (by kernel_rfl) rfl (fun _ _ _ h => h) (Or.inl ⟨by rfl, ?_⟩) ?_
    rotate_left; · intro w0 _; go_simp; try with_reducible rfl
    try simp only [Act.put, List.setIfInBounds_toArray, List.set_cons_zero, List.set_cons_succ]
    refine Go_.take (i := 32) (oi := ⟨some 72, Op.indexAddr 24 (Operand.tmp 70) (Operand.tmp 71), 0, _, _, some (19, true)⟩) (v := ?_) rfl (by kernel_rfl) (by kernel_rfl) (by kernel_rfl) rfl (fun _ _ _ h => h) (Or.inl ⟨by rfl, ?_⟩) ?_
    rotate_left; · intro w0 _; go_simp; try with_reducible rfl
    try simp only [Act.put, List.setIfInBounds_toArray, List.set_cons_zero, List.set_cons_succ]
    refine Go_.take (i := 33) (oi := ⟨some 73, Op.load 5 (Operand.tmp 72), 5, _, _, some (19, true)⟩) (v := ?_) rfl (by kernel_rfl) (by kernel_rfl) (by kernel_rfl) rfl (fun _ _ _ h => h) (Or.inl ⟨by rfl, ?_⟩) ?_
    rotate_left; · intro w0 hS; obtain ⟨hH, hBB, hBX, hcy, hW⟩ := hS; have h8 := hH.eight; go_simp; try with_reducible rfl
    try simp only [Act.put, List.setIfInBounds_toArray, List.set_cons_zero, List.set_cons_succ]
    refine Go_.take (i := 34) (oi := ⟨some 74, Op.binOp BinOp.eql 5 (Operand.tmp 69) (Operand.tmp 73) 5, 4, _, _, some (19, true)⟩) (v := ?_) rfl (by kernel_rfl) (by kernel_rfl) (by kernel_rfl) rfl (fun _ _ _ h => h) (Or.inl ⟨by rfl, ?_⟩) ?_
    rotate_left; · intro w0 _; go_simp; try with_reducible rfl
    try simp only [Act.put, List.setIfInBounds_toArray, List.set_cons_zero, List.set_cons_succ]
    refine Go_.step (i := 23) (o := ⟨some 63, Op.call { callee := Callee.value (Operand.func 25), args := #[Operand.tmp 60, Operand.tmp 61, Operand.tmp 62], argTypes := #[28, 3, 24] }, 26, _, _, some (19, true)⟩) (by kernel_rfl) rfl (fun K hT' hK => ?_)
    replace hT' := hT'.1
    rw [if_pos (by rfl)]
    go_simp
    refine (tt_of k p _ X _ c1 hXl hl2 _ hT'.2.2.1 T hTT).mono ?_
    rintro e w' ⟨rfl, hbx⟩
    refine hK.out _ _ (Till.of ⟨hT'.1.below hbx hT'.1.lt, hT'.2.1.below hbx, hT'.2.2.1.below hbx, (hbx.cell (p := ⟨b, o + i, none⟩) (Nat.lt_of_lt_of_le hbs hT'.2.2.2.2.size)).trans hT'.2.2.2.1, hT'.2.2.2.2.trans (hbx.mono hT'.2.2.2.2.size)⟩) ?_
    clear hT' hK K
    refine Go_.step (i := 27) (o := ⟨some 67, Op.call { callee := Callee.value (Operand.func 25), args := #[Operand.tmp 64, Operand.tmp 65, Operand.tmp 66], argTypes := #[28, 3, 24] }, 26, _, _, some (19, true)⟩) (by kernel_rfl) rfl (fun K hT' hK => ?_)
    replace hT' := hT'.1
    rw [if_pos (by rfl)]
    go_simp
    refine (tt_of k p _ l _ c rfl hl2 _ hT'.2.1 U hU).mono ?_
    rintro e w' ⟨rfl, hbx⟩
    refine hK.out _ _ (Till.of ⟨hT'.1.below hbx hT'.1.lt, hT'.2.1.below hbx, hT'.2.2.1.below hbx, (hbx.cell (p := ⟨b, o + i, none⟩) (Nat.lt_of_lt_of_le hbs hT'.2.2.2.2.size)).trans hT'.2.2.2.1, hT'.2.2.2.2.trans (hbx.mono hT'.2.2.2.2.size)⟩) ?_
    clear hT' hK K
    refine Go_.step (i := 28) (o := ⟨some 68, Op.call { callee := Callee.value (Operand.func 29), args := #[Operand.tmp 63, Operand.tmp 67], argTypes := #[26, 26] }, 4, _, _, some (19, true)⟩) (by kernel_rfl) rfl (fun K hT' hK => ?_)
    replace hT' := hT'.1
    rw [if_pos (by rfl)]
    go_simp
    refine (tt_same T U hTl hUl bb h3 _).mono ?_
    rintro e w' ⟨rfl, hbx⟩
    have hfin := hT'.2.2.2.2.trans (hbx.mono hT'.2.2.2.2.size)
    refine hK.out _ _ (Till.of ⟨hT'.1.below hbx hT'.1.lt, hT'.2.1.below hbx, hT'.2.2.1.below hbx, (hbx.cell (p := ⟨b, o + i, none⟩) (Nat.lt_of_lt_of_le hbs hT'.2.2.2.2.size)).trans hT'.2.2.2.1, hT'.2.2.2.2.trans (hbx.mono hT'.2.2.2.2.size)⟩) ?_
    clear hT' hK K
    refine Go_.take (i := 35) (oi := ⟨some 75, Op.binOp BinOp.eql 4 (Operand.tmp 68) (Operand.tmp 74) 4, 4, _, _, some (19, true)⟩) (v := ?_) rfl (by kernel_rfl) (by kernel_rfl) (by kernel_rfl) rfl (fun _ _ _ h => h) (Or.inl ⟨by rfl, ?_⟩) ?_
    rotate_left; · intro w0 _; go_simp; try with_reducible rfl
    try simp only [Act.put, List.setIfInBounds_toArray, List.set_cons_zero, List.set_cons_succ]
    refine Go_.take (i := 36) (oi := ⟨some 76, Op.pick (Operand.tmp 59) (Operand.tmp 75) (Operand.const (Value.bool false)), 4, _, _, none⟩) (v := ?_) rfl (by kernel_rfl) (by kernel_rfl) (by kernel_rfl) rfl (fun _ _ _ h => h) (Or.inl ⟨by rfl, ?_⟩) ?_
    rotate_left; · intro w0 _; go_simp; try with_reducible rfl
    try simp only [Act.put, List.setIfInBounds_toArray, List.set_cons_zero, List.set_cons_succ]
    refine Go_.take (i := 37) (oi := ⟨some 14, Op.assign (Operand.tmp 76), 4, _, _, none⟩) (v := ?_) rfl (by kernel_rfl) (by kernel_rfl) (by kernel_rfl) rfl (fun _ _ _ h => h) (Or.inl ⟨by rfl, ?_⟩) ?_
    rotate_left; · intro w0 _; go_simp; try with_reducible rfl
    try simp only [Act.put, List.setIfInBounds_toArray, List.set_cons_zero, List.set_cons_succ]
    refine Go_.done (by kernel_rfl) ?_
    go_wp2
    go_ret
    exact ⟨ret_boolT (by simp), hfin⟩
end Go.Proofs.Ytcdklmicbbcknaa
