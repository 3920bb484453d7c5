/-
  steamerlaw9.NumOnce answers true and leaves old memory as it was: by a walk of its text (printed by numonce.py).
-/
import Derived.Test.YtcdklmicbbcknaaNt
namespace Go.Proofs.Ytcdklmicbbcknaa
open Go Go.RowKit
theorem no_put (n N : Nat) (hN : Hid ((putL n).length = N)) (hn : n ≤ 18446744073709551615) (w : World) : Calls Try.prog 31 #[.int .u64 n] w fun e w' => ∃ A c, e = .returned (.slice A N c) ∧ Below w.heap.size w w' := by
  refine (put_any n hn w).mono ?_
  rintro e w' ⟨A, c, r, hr, rfl, ho, hb⟩
  exact ⟨A, c, by rw [hr.out, hN.out], hb⟩
theorem no_put2 (n : Nat) (R : List UInt8) (hR : Hid (R = putL n)) (hn : n ≤ 18446744073709551615) (w : World) : Calls Try.prog 31 #[.int .u64 n] w fun e w' => ∃ A c, e = .returned (.slice A R.length c) ∧ Bts w' A R ∧ Below w.heap.size w w' := by
  obtain rfl := hR.out
  refine (put_any n hn w).mono ?_
  rintro e w' ⟨A, c, r, hr, rfl, ho, hb⟩
  obtain rfl := hr.out
  exact ⟨A, c, rfl, ho.bts, hb⟩
theorem ret_boolO {b : Bool} (h : b = true) : Ending.returned (.bool b) = .returned (.bool true) := by rw [h]
theorem neq_str (w : World) (s : ByteArray) : (binOp .neq 9 (.string s) (.string s)).run Try.prog w = .ok (.bool false) w := by
  simp [go_sem]
attribute [local go_sem ↓] run_str'
set_option maxRecDepth 20000 in
set_option maxHeartbeats 8000000 in
theorem walk_NumOnce (A : Option Addr) (l : List UInt8) (c : Nat) (x y : Nat) (w : World) (hB : Bts w A l) (hlc : l.length ≤ c) (_hc : c ≤ maxLen) (hx : x < 18446744073709551616) (hy : y < 18446744073709551616) :
    Calls Try.prog 9 #[.slice A l.length c, .int .u64 x, .int .u64 y] w fun e w' => e = .returned (.bool true) ∧ Below w.heap.size w w' := by
  by_cases h30 : 30 < l.length
  · go_enter Try.func9, Try.ntmps9
    go_wp2_with fail
    refine (told9 _).mono ?_
    rintro e w1 ⟨rfl, hb1⟩
    go_wp2
    go_ret
    exact ⟨rfl, hb1⟩
  · have hl : l.length ≤ 30 := by omega
    obtain ⟨r, t, cd, hG⟩ : ∃ r t cd, Hid (getL l 0 = (r, t, cd)) := ⟨_, _, _, rfl⟩
    obtain ⟨X, hX⟩ : ∃ X, Hid ((putL x).length = X) := ⟨_, rfl⟩
    obtain ⟨Y, hY⟩ : ∃ Y, Hid ((putL y).length = Y) := ⟨_, rfl⟩
    have hX18 : X ≤ 18 := by rw [← hX.out]; exact putL_18 x (by omega)
    have hY18 : Y ≤ 18 := by rw [← hY.out]; exact putL_18 y (by omega)
    have hxy : (x ≤ y ∧ X ≤ Y) ∨ (y < x ∧ Y ≤ X) := by
      rcases Nat.lt_or_ge y x with h | h
      · exact Or.inr ⟨h, by rw [← hX.out, ← hY.out]; exact putL_mono x y (by omega)⟩
      · exact Or.inl ⟨h, by rw [← hX.out, ← hY.out]; exact putL_mono y x h⟩
    by_cases hcd : cd = 0
    · subst hcd
      have hrd : readL l 0 = (r, t, 0) := by
        have h := hG.out
        unfold getL at h
        simp only [Prod.mk.injEq] at h
        obtain ⟨h1, h2, h3⟩ := h
        have h4 : (readL l 0).2.2 = 0 := by
          by_cases h5 : (readL l 0).2.2 = 5
          · rw [if_pos h5] at h3; omega
          · rw [if_neg h5] at h3; exact h3
        exact Prod.ext h1 (Prod.ext h2 h4)
      obtain ⟨ht1, ht2, hput, hr64⟩ := read_once l r t hrd
      obtain ⟨R, hR⟩ : ∃ R, Hid (R = putL r) := ⟨_, rfl⟩
      rw [← hR.out] at hput
      have hRl : R.length = t := by rw [hput, List.length_take]; omega
      have hB0 := hB
      obtain ⟨b, o, rfl, hbs, _⟩ := hB (by omega)
      clear hrd
      have HB := Lib.hid (And.intro hB.drew (Below.refl w.heap.size w).drew)
      have HP := Lib.hid hput
      have hp0 : ∀ w0, Bts w0 (some ⟨b, o, none⟩) l → (convert 24 9 (.slice (some ⟨b, o, none⟩) t c)).run Try.prog w0 = .ok (.string (mkStr R)) w0 := fun w0 h => by
        have h1 := h.part (by omega) 0 t (by omega)
        rw [List.drop_zero, ← HP.out, Nat.add_zero] at h1
        have h2 := run_str h1 c
        rw [hRl] at h2
        exact h2
      have HP0 := Lib.hid hp0
      have HRl := Lib.hid hRl
      clear hB hput hp0 hRl
      have hd3 : t ≤ c := by omega
      go_enter Try.func9, Try.ntmps9
      go_wp2_with fail
      refine (get_any _ l c 0 _ (by omega) (by omega) hB0 r t 0 hG).mono ?_
      rintro e w1 ⟨rfl, rfl⟩
      clear hB0
      go_wp2_with fail
      have hd1 : ¬ ((t : Int) < 1) := by omega
      have hd2 : ¬ ((l.length : Int) < (t : Int)) := by omega
      refine wp_region_till 22 (fun w' => Bts w' (some ⟨b, o, none⟩) l ∧ Below w.heap.size w w') (fun _ => True) (by kernel_rfl) (HB.out) trivial ?_
      show Go_ _ _ _ _ _ _ _ _ _ _ (World.drew _)
      refine Go_.take (i := 0) (oi := ⟨some 20, Op.move (Operand.tmp 9), 3, _, _, none⟩) (v := ?_) rfl (by kernel_rfl) (by kernel_rfl) (by kernel_rfl) rfl (fun _ _ _ h => h) (Or.inl ⟨by rfl, ?_⟩) ?_
      rotate_left; · intro w0 _; go_simp; try with_reducible rfl
      try simp only [Act.put, List.setIfInBounds_toArray, List.set_cons_zero, List.set_cons_succ]
      refine Go_.take (i := 1) (oi := ⟨some 21, Op.binOp BinOp.eql 3 (Operand.tmp 20) (Operand.const (Value.int IntKind.i64 0)) 3, 4, _, _, none⟩) (v := ?_) rfl (by kernel_rfl) (by kernel_rfl) (by kernel_rfl) rfl (fun _ _ _ h => h) (Or.inl ⟨by rfl, ?_⟩) ?_
      rotate_left; · intro w0 _; go_simp; try with_reducible rfl
      try simp only [Act.put, List.setIfInBounds_toArray, List.set_cons_zero, List.set_cons_succ]
      refine Go_.take (i := 2) (oi := ⟨some 22, Op.move (Operand.tmp 21), 4, _, _, none⟩) (v := ?_) rfl (by kernel_rfl) (by kernel_rfl) (by kernel_rfl) rfl (fun _ _ _ h => h) (Or.inl ⟨by rfl, ?_⟩) ?_
      rotate_left; · intro w0 _; go_simp; try with_reducible rfl
      try simp only [Act.put, List.setIfInBounds_toArray, List.set_cons_zero, List.set_cons_succ]
      refine Go_.take (i := 3) (oi := ⟨some 23, Op.move (Operand.tmp 8), 3, _, _, some (2, true)⟩) (v := ?_) rfl (by kernel_rfl) (by kernel_rfl) (by kernel_rfl) rfl (fun _ _ _ h => h) (Or.inl ⟨by rfl, ?_⟩) ?_
      rotate_left; · intro w0 _; go_simp; try with_reducible rfl
      try simp only [Act.put, List.setIfInBounds_toArray, List.set_cons_zero, List.set_cons_succ]
      refine Go_.take (i := 4) (oi := ⟨some 24, Op.binOp BinOp.lss 3 (Operand.tmp 23) (Operand.const (Value.int IntKind.i64 1)) 3, 4, _, _, some (2, true)⟩) (v := ?_) rfl (by kernel_rfl) (by kernel_rfl) (by kernel_rfl) rfl (fun _ _ _ h => h) (Or.inl ⟨by rfl, ?_⟩) ?_
      rotate_left; · intro w0 _; go_simp; try with_reducible rfl
      try simp only [Act.put, List.setIfInBounds_toArray, List.set_cons_zero, List.set_cons_succ]
      refine Go_.take (i := 5) (oi := ⟨some 25, Op.move (Operand.tmp 24), 4, _, _, some (2, true)⟩) (v := ?_) rfl (by kernel_rfl) (by kernel_rfl) (by kernel_rfl) rfl (fun _ _ _ h => h) (Or.inl ⟨by rfl, ?_⟩) ?_
      rotate_left; · intro w0 _; go_simp; try with_reducible rfl
      try simp only [Act.put, List.setIfInBounds_toArray, List.set_cons_zero, List.set_cons_succ]
      refine Go_.take (i := 6) (oi := ⟨some 26, Op.move (Operand.tmp 8), 3, _, _, some (5, false)⟩) (v := ?_) rfl (by kernel_rfl) (by kernel_rfl) (by kernel_rfl) rfl (fun _ _ _ h => h) (Or.inl ⟨by rfl, ?_⟩) ?_
      rotate_left; · intro w0 _; go_simp; try with_reducible rfl
      try simp only [Act.put, List.setIfInBounds_toArray, List.set_cons_zero, List.set_cons_succ]
      refine Go_.take (i := 7) (oi := ⟨some 27, Op.move (Operand.tmp 0), 24, _, _, some (5, false)⟩) (v := ?_) rfl (by kernel_rfl) (by kernel_rfl) (by kernel_rfl) rfl (fun _ _ _ h => h) (Or.inl ⟨by rfl, ?_⟩) ?_
      rotate_left; · intro w0 _; go_simp; try with_reducible rfl
      try simp only [Act.put, List.setIfInBounds_toArray, List.set_cons_zero, List.set_cons_succ]
      refine Go_.take (i := 8) (oi := ⟨some 28, Op.call { callee := Callee.builtin Builtin.len, args := #[Operand.tmp 27], argTypes := #[24] }, 3, _, _, some (5, false)⟩) (v := ?_) rfl (by kernel_rfl) (by kernel_rfl) (by kernel_rfl) rfl (fun _ _ _ h => h) (Or.inl ⟨by rfl, ?_⟩) ?_
      rotate_left; · intro w0 hS; obtain ⟨hBB, hW⟩ := hS; have hst := HP0.out w0 hBB; go_simp; try with_reducible rfl
      try simp only [Act.put, List.setIfInBounds_toArray, List.set_cons_zero, List.set_cons_succ]
      refine Go_.take (i := 9) (oi := ⟨some 29, Op.binOp BinOp.gtr 3 (Operand.tmp 26) (Operand.tmp 28) 3, 4, _, _, some (5, false)⟩) (v := ?_) rfl (by kernel_rfl) (by kernel_rfl) (by kernel_rfl) rfl (fun _ _ _ h => h) (Or.inl ⟨by rfl, ?_⟩) ?_
      rotate_left; · intro w0 _; go_simp; try with_reducible rfl
      try simp only [Act.put, List.setIfInBounds_toArray, List.set_cons_zero, List.set_cons_succ]
      refine Go_.take (i := 10) (oi := ⟨some 30, Op.pick (Operand.tmp 25) (Operand.const (Value.bool true)) (Operand.tmp 29), 4, _, _, some (2, true)⟩) (v := ?_) rfl (by kernel_rfl) (by kernel_rfl) (by kernel_rfl) rfl (fun _ _ _ h => h) (Or.inl ⟨by rfl, ?_⟩) ?_
      rotate_left; · intro w0 _; go_simp; try with_reducible rfl
      try simp only [Act.put, List.setIfInBounds_toArray, List.set_cons_zero, List.set_cons_succ]
      refine Go_.take (i := 11) (oi := ⟨some 31, Op.move (Operand.tmp 30), 4, _, _, some (2, true)⟩) (v := ?_) rfl (by kernel_rfl) (by kernel_rfl) (by kernel_rfl) rfl (fun _ _ _ h => h) (Or.inl ⟨by rfl, ?_⟩) ?_
      rotate_left; · intro w0 _; go_simp; try with_reducible rfl
      try simp only [Act.put, List.setIfInBounds_toArray, List.set_cons_zero, List.set_cons_succ]
      refine Go_.take (i := 12) (oi := ⟨some 32, Op.move (Operand.tmp 7), 38, _, _, some (11, false)⟩) (v := ?_) rfl (by kernel_rfl) (by kernel_rfl) (by kernel_rfl) rfl (fun _ _ _ h => h) (Or.inl ⟨by rfl, ?_⟩) ?_
      rotate_left; · intro w0 _; go_simp; try with_reducible rfl
      try simp only [Act.put, List.setIfInBounds_toArray, List.set_cons_zero, List.set_cons_succ]
      refine Go_.take (i := 15) (oi := ⟨some 35, Op.move (Operand.tmp 0), 24, _, _, some (11, false)⟩) (v := ?_) rfl (by kernel_rfl) (by kernel_rfl) (by kernel_rfl) rfl (fun _ _ _ h => h) (Or.inl ⟨by rfl, ?_⟩) ?_
      rotate_left; · intro w0 _; go_simp; try with_reducible rfl
      try simp only [Act.put, List.setIfInBounds_toArray, List.set_cons_zero, List.set_cons_succ]
      refine Go_.take (i := 16) (oi := ⟨some 36, Op.move (Operand.tmp 8), 3, _, _, some (11, false)⟩) (v := ?_) rfl (by kernel_rfl) (by kernel_rfl) (by kernel_rfl) rfl (fun _ _ _ h => h) (Or.inl ⟨by rfl, ?_⟩) ?_
      rotate_left; · intro w0 _; go_simp; try with_reducible rfl
      try simp only [Act.put, List.setIfInBounds_toArray, List.set_cons_zero, List.set_cons_succ]
      refine Go_.take (i := 17) (oi := ⟨some 37, Op.slice 24 (Operand.tmp 35) none (some (Operand.tmp 36)) none, 24, _, _, some (11, false)⟩) (v := ?_) rfl (by kernel_rfl) (by kernel_rfl) (by kernel_rfl) rfl (fun _ _ _ h => h) (Or.inl ⟨by rfl, ?_⟩) ?_
      rotate_left; · intro w0 _; go_simp; try with_reducible rfl
      try simp only [Act.put, List.setIfInBounds_toArray, List.set_cons_zero, List.set_cons_succ]
      refine Go_.take (i := 18) (oi := ⟨some 38, Op.convert 24 9 (Operand.tmp 37), 9, _, _, some (11, false)⟩) (v := ?_) rfl (by kernel_rfl) (by kernel_rfl) (by kernel_rfl) rfl (fun _ _ _ h => h) (Or.inl ⟨by rfl, ?_⟩) ?_
      rotate_left; · intro w0 hS; obtain ⟨hBB, hW⟩ := hS; have hst := HP0.out w0 hBB; go_simp; try with_reducible rfl
      try simp only [Act.put, List.setIfInBounds_toArray, List.set_cons_zero, List.set_cons_succ]
      refine Go_.step (i := 13) (o := ⟨some 33, Op.call { callee := Callee.value (Operand.func 31), args := #[Operand.tmp 32], argTypes := #[38] }, 24, _, _, some (11, false)⟩) (by kernel_rfl) rfl (fun K hT hK => ?_)
      replace hT := hT.1
      rw [if_pos (by rfl)]
      go_simp
      refine (no_put2 r R hR hr64 _).mono ?_
      rintro e w' ⟨A2, c2, rfl, hB2, hbx⟩
      have hfin := hT.2.trans (hbx.mono hT.2.size)
      refine hK.out _ _ (Till.of ⟨hT.1.below hbx, hT.2.trans (hbx.mono hT.2.size)⟩) ?_
      clear hT hK K
      refine Go_.raise (C := fun w0 => Bts w0 A2 R) hB2 ?_
      refine Go_.take (i := 14) (oi := ⟨some 34, Op.convert 24 9 (Operand.tmp 33), 9, _, _, some (11, false)⟩) (v := ?_) rfl (by kernel_rfl) (by kernel_rfl) (by kernel_rfl) rfl (fun _ _ _ h => h) (Or.inl ⟨by rfl, ?_⟩) ?_
      rotate_left; · intro w0 hS; obtain ⟨⟨hBB, hW⟩, hB2⟩ := hS; have hst := HP0.out w0 hBB; go_simp; try with_reducible rfl
      try simp only [Act.put, List.setIfInBounds_toArray, List.set_cons_zero, List.set_cons_succ]
      refine Go_.take (i := 19) (oi := ⟨some 39, Op.binOp BinOp.neq 9 (Operand.tmp 34) (Operand.tmp 38) 9, 4, _, _, some (11, false)⟩) (v := ?_) rfl (by kernel_rfl) (by kernel_rfl) (by kernel_rfl) rfl (fun _ _ _ h => h) (Or.inl ⟨by rfl, ?_⟩) ?_
      rotate_left; · intro w0 _; go_simp; try with_reducible rfl
      try simp only [Act.put, List.setIfInBounds_toArray, List.set_cons_zero, List.set_cons_succ]
      refine Go_.take (i := 20) (oi := ⟨some 40, Op.pick (Operand.tmp 31) (Operand.const (Value.bool true)) (Operand.tmp 39), 4, _, _, some (2, true)⟩) (v := ?_) rfl (by kernel_rfl) (by kernel_rfl) (by kernel_rfl) rfl (fun _ _ _ h => h) (Or.inl ⟨by rfl, ?_⟩) ?_
      rotate_left; · intro w0 _; go_simp; try with_reducible rfl
      try simp only [Act.put, List.setIfInBounds_toArray, List.set_cons_zero, List.set_cons_succ]
      refine Go_.take (i := 21) (oi := ⟨some 41, Op.pick (Operand.tmp 22) (Operand.tmp 40) (Operand.const (Value.bool false)), 4, _, _, none⟩) (v := ?_) rfl (by kernel_rfl) (by kernel_rfl) (by kernel_rfl) rfl (fun _ _ _ h => h) (Or.inl ⟨by rfl, ?_⟩) ?_
      rotate_left; · intro w0 _; go_simp; try with_reducible rfl
      try simp only [Act.put, List.setIfInBounds_toArray, List.set_cons_zero, List.set_cons_succ]
      refine Go_.done (by kernel_rfl) ?_
      clear hd1 hd2
      rcases hxy with ⟨hxy, hXY⟩ | ⟨hxy, hXY⟩
      · go_wp2_with fail
        refine (told9 _).mono ?_
        rintro e w3 ⟨rfl, hb3⟩
        have hf3 := hfin.trans (hb3.mono hfin.size)
        clear hfin hb3
        go_wp2_with fail
        refine (no_put x X hX (by omega) _).mono ?_
        rintro e w4 ⟨A4, c4, rfl, hb4⟩
        have hf4 := hf3.trans (hb4.mono hf3.size)
        clear hf3 hb4
        go_wp2_with fail
        refine (no_put y Y hY (by omega) _).mono ?_
        rintro e w5 ⟨A5, c5, rfl, hb5⟩
        have hf5 := hf4.trans (hb5.mono hf4.size)
        clear hf4 hb5
        go_wp2_with fail
        refine (no_put y Y hY (by omega) _).mono ?_
        rintro e w6 ⟨A6, c6, rfl, hb6⟩
        have hf6 := hf5.trans (hb6.mono hf5.size)
        clear hf5 hb6
        go_wp2_with fail
        go_ret
        exact ⟨ret_boolO (by simp; omega), hf6⟩
      · go_wp2_with fail
        refine (told9 _).mono ?_
        rintro e w3 ⟨rfl, hb3⟩
        have hf3 := hfin.trans (hb3.mono hfin.size)
        clear hfin hb3
        go_wp2_with fail
        refine (no_put y Y hY (by omega) _).mono ?_
        rintro e w4 ⟨A4, c4, rfl, hb4⟩
        have hf4 := hf3.trans (hb4.mono hf3.size)
        clear hf3 hb4
        go_wp2_with fail
        refine (no_put x X hX (by omega) _).mono ?_
        rintro e w5 ⟨A5, c5, rfl, hb5⟩
        have hf5 := hf4.trans (hb5.mono hf4.size)
        clear hf4 hb5
        go_wp2_with fail
        refine (no_put x X hX (by omega) _).mono ?_
        rintro e w6 ⟨A6, c6, rfl, hb6⟩
        have hf6 := hf5.trans (hb6.mono hf5.size)
        clear hf5 hb6
        go_wp2_with fail
        go_ret
        exact ⟨ret_boolO (by simp; omega), hf6⟩
    · have hcd2 : ¬ ((cd : Int) = 0) := by omega
      have hfin := (Below.refl w.heap.size w).drew
      go_enter Try.func9, Try.ntmps9
      go_wp2_with fail
      refine (get_any _ l c 0 _ (by omega) (by omega) hB r t cd hG).mono ?_
      rintro e w1 ⟨rfl, rfl⟩
      clear hB
      go_wp2_with fail
      have hbe : ((cd : Int) == 0) = false := beq_eq_false_iff_ne.2 hcd2
      refine wp_region_till 22 (fun _ => True) (fun _ => True) (by kernel_rfl) trivial trivial ?_
      show Go_ _ _ _ _ _ _ _ _ _ _ (World.drew _)
      refine Go_.take (i := 0) (oi := ⟨some 20, Op.move (Operand.tmp 9), 3, _, _, none⟩) (v := ?_) rfl (by kernel_rfl) (by kernel_rfl) (by kernel_rfl) rfl (fun _ _ _ h => h) (Or.inl ⟨by rfl, ?_⟩) ?_
      rotate_left; · intro w0 _; go_simp; try with_reducible rfl
      try simp only [Act.put, List.setIfInBounds_toArray, List.set_cons_zero, List.set_cons_succ]
      refine Go_.take (i := 1) (oi := ⟨some 21, Op.binOp BinOp.eql 3 (Operand.tmp 20) (Operand.const (Value.int IntKind.i64 0)) 3, 4, _, _, none⟩) (v := ?_) rfl (by kernel_rfl) (by kernel_rfl) (by kernel_rfl) rfl (fun _ _ _ h => h) (Or.inl ⟨by rfl, ?_⟩) ?_
      rotate_left; · intro w0 _; go_simp; try with_reducible rfl
      try simp only [Act.put, List.setIfInBounds_toArray, List.set_cons_zero, List.set_cons_succ]
      refine Go_.take (i := 2) (oi := ⟨some 22, Op.move (Operand.tmp 21), 4, _, _, none⟩) (v := ?_) rfl (by kernel_rfl) (by kernel_rfl) (by kernel_rfl) rfl (fun _ _ _ h => h) (Or.inl ⟨by rfl, ?_⟩) ?_
      rotate_left; · intro w0 _; go_simp; try with_reducible rfl
      try simp only [Act.put, List.setIfInBounds_toArray, List.set_cons_zero, List.set_cons_succ]
      refine Go_.take (i := 3) (oi := ⟨some 23, Op.move (Operand.tmp 8), 3, _, _, some (2, true)⟩) (v := undef) rfl (by kernel_rfl) (by kernel_rfl) (by kernel_rfl) rfl (fun _ _ _ h => h) (Or.inr ⟨by rfl, rfl⟩) ?_
      try simp only [Act.put, List.setIfInBounds_toArray, List.set_cons_zero, List.set_cons_succ]
      refine Go_.take (i := 4) (oi := ⟨some 24, Op.binOp BinOp.lss 3 (Operand.tmp 23) (Operand.const (Value.int IntKind.i64 1)) 3, 4, _, _, some (2, true)⟩) (v := undef) rfl (by kernel_rfl) (by kernel_rfl) (by kernel_rfl) rfl (fun _ _ _ h => h) (Or.inr ⟨by rfl, rfl⟩) ?_
      try simp only [Act.put, List.setIfInBounds_toArray, List.set_cons_zero, List.set_cons_succ]
      refine Go_.take (i := 5) (oi := ⟨some 25, Op.move (Operand.tmp 24), 4, _, _, some (2, true)⟩) (v := undef) rfl (by kernel_rfl) (by kernel_rfl) (by kernel_rfl) rfl (fun _ _ _ h => h) (Or.inr ⟨by rfl, rfl⟩) ?_
      try simp only [Act.put, List.setIfInBounds_toArray, List.set_cons_zero, List.set_cons_succ]
      refine Go_.take (i := 6) (oi := ⟨some 26, Op.move (Operand.tmp 8), 3, _, _, some (5, false)⟩) (v := undef) rfl (by kernel_rfl) (by kernel_rfl) (by kernel_rfl) rfl (fun _ _ _ h => h) (Or.inr ⟨by rfl, rfl⟩) ?_
      try simp only [Act.put, List.setIfInBounds_toArray, List.set_cons_zero, List.set_cons_succ]
      refine Go_.take (i := 7) (oi := ⟨some 27, Op.move (Operand.tmp 0), 24, _, _, some (5, false)⟩) (v := undef) rfl (by kernel_rfl) (by kernel_rfl) (by kernel_rfl) rfl (fun _ _ _ h => h) (Or.inr ⟨by rfl, rfl⟩) ?_
      try simp only [Act.put, List.setIfInBounds_toArray, List.set_cons_zero, List.set_cons_succ]
      refine Go_.take (i := 8) (oi := ⟨some 28, Op.call { callee := Callee.builtin Builtin.len, args := #[Operand.tmp 27], argTypes := #[24] }, 3, _, _, some (5, false)⟩) (v := undef) rfl (by kernel_rfl) (by kernel_rfl) (by kernel_rfl) rfl (fun _ _ _ h => h) (Or.inr ⟨by rfl, rfl⟩) ?_
      try simp only [Act.put, List.setIfInBounds_toArray, List.set_cons_zero, List.set_cons_succ]
      refine Go_.take (i := 9) (oi := ⟨some 29, Op.binOp BinOp.gtr 3 (Operand.tmp 26) (Operand.tmp 28) 3, 4, _, _, some (5, false)⟩) (v := undef) rfl (by kernel_rfl) (by kernel_rfl) (by kernel_rfl) rfl (fun _ _ _ h => h) (Or.inr ⟨by rfl, rfl⟩) ?_
      try simp only [Act.put, List.setIfInBounds_toArray, List.set_cons_zero, List.set_cons_succ]
      refine Go_.take (i := 10) (oi := ⟨some 30, Op.pick (Operand.tmp 25) (Operand.const (Value.bool true)) (Operand.tmp 29), 4, _, _, some (2, true)⟩) (v := undef) rfl (by kernel_rfl) (by kernel_rfl) (by kernel_rfl) rfl (fun _ _ _ h => h) (Or.inr ⟨by rfl, rfl⟩) ?_
      try simp only [Act.put, List.setIfInBounds_toArray, List.set_cons_zero, List.set_cons_succ]
      refine Go_.take (i := 11) (oi := ⟨some 31, Op.move (Operand.tmp 30), 4, _, _, some (2, true)⟩) (v := undef) rfl (by kernel_rfl) (by kernel_rfl) (by kernel_rfl) rfl (fun _ _ _ h => h) (Or.inr ⟨by rfl, rfl⟩) ?_
      try simp only [Act.put, List.setIfInBounds_toArray, List.set_cons_zero, List.set_cons_succ]
      refine Go_.take (i := 12) (oi := ⟨some 32, Op.move (Operand.tmp 7), 38, _, _, some (11, false)⟩) (v := undef) rfl (by kernel_rfl) (by kernel_rfl) (by kernel_rfl) rfl (fun _ _ _ h => h) (Or.inr ⟨by rfl, rfl⟩) ?_
      try simp only [Act.put, List.setIfInBounds_toArray, List.set_cons_zero, List.set_cons_succ]
      refine Go_.take (i := 13) (oi := ⟨some 33, Op.call { callee := Callee.value (Operand.func 31), args := #[Operand.tmp 32], argTypes := #[38] }, 24, _, _, some (11, false)⟩) (v := undef) rfl (by kernel_rfl) (by kernel_rfl) (by kernel_rfl) rfl (fun _ _ _ h => h) (Or.inr ⟨by rfl, rfl⟩) ?_
      try simp only [Act.put, List.setIfInBounds_toArray, List.set_cons_zero, List.set_cons_succ]
      refine Go_.take (i := 14) (oi := ⟨some 34, Op.convert 24 9 (Operand.tmp 33), 9, _, _, some (11, false)⟩) (v := undef) rfl (by kernel_rfl) (by kernel_rfl) (by kernel_rfl) rfl (fun _ _ _ h => h) (Or.inr ⟨by rfl, rfl⟩) ?_
      try simp only [Act.put, List.setIfInBounds_toArray, List.set_cons_zero, List.set_cons_succ]
      refine Go_.take (i := 15) (oi := ⟨some 35, Op.move (Operand.tmp 0), 24, _, _, some (11, false)⟩) (v := undef) rfl (by kernel_rfl) (by kernel_rfl) (by kernel_rfl) rfl (fun _ _ _ h => h) (Or.inr ⟨by rfl, rfl⟩) ?_
      try simp only [Act.put, List.setIfInBounds_toArray, List.set_cons_zero, List.set_cons_succ]
      refine Go_.take (i := 16) (oi := ⟨some 36, Op.move (Operand.tmp 8), 3, _, _, some (11, false)⟩) (v := undef) rfl (by kernel_rfl) (by kernel_rfl) (by kernel_rfl) rfl (fun _ _ _ h => h) (Or.inr ⟨by rfl, rfl⟩) ?_
      try simp only [Act.put, List.setIfInBounds_toArray, List.set_cons_zero, List.set_cons_succ]
      refine Go_.take (i := 17) (oi := ⟨some 37, Op.slice 24 (Operand.tmp 35) none (some (Operand.tmp 36)) none, 24, _, _, some (11, false)⟩) (v := undef) rfl (by kernel_rfl) (by kernel_rfl) (by kernel_rfl) rfl (fun _ _ _ h => h) (Or.inr ⟨by rfl, rfl⟩) ?_
      try simp only [Act.put, List.setIfInBounds_toArray, List.set_cons_zero, List.set_cons_succ]
      refine Go_.take (i := 18) (oi := ⟨some 38, Op.convert 24 9 (Operand.tmp 37), 9, _, _, some (11, false)⟩) (v := undef) rfl (by kernel_rfl) (by kernel_rfl) (by kernel_rfl) rfl (fun _ _ _ h => h) (Or.inr ⟨by rfl, rfl⟩) ?_
      try simp only [Act.put, List.setIfInBounds_toArray, List.set_cons_zero, List.set_cons_succ]
      refine Go_.take (i := 19) (oi := ⟨some 39, Op.binOp BinOp.neq 9 (Operand.tmp 34) (Operand.tmp 38) 9, 4, _, _, some (11, false)⟩) (v := undef) rfl (by kernel_rfl) (by kernel_rfl) (by kernel_rfl) rfl (fun _ _ _ h => h) (Or.inr ⟨by rfl, rfl⟩) ?_
      try simp only [Act.put, List.setIfInBounds_toArray, List.set_cons_zero, List.set_cons_succ]
      refine Go_.take (i := 20) (oi := ⟨some 40, Op.pick (Operand.tmp 31) (Operand.const (Value.bool true)) (Operand.tmp 39), 4, _, _, some (2, true)⟩) (v := undef) rfl (by kernel_rfl) (by kernel_rfl) (by kernel_rfl) rfl (fun _ _ _ h => h) (Or.inr ⟨by rfl, rfl⟩) ?_
      try simp only [Act.put, List.setIfInBounds_toArray, List.set_cons_zero, List.set_cons_succ]
      refine Go_.take (i := 21) (oi := ⟨some 41, Op.pick (Operand.tmp 22) (Operand.tmp 40) (Operand.const (Value.bool false)), 4, _, _, none⟩) (v := ?_) rfl (by kernel_rfl) (by kernel_rfl) (by kernel_rfl) rfl (fun _ _ _ h => h) (Or.inl ⟨by rfl, ?_⟩) ?_
      rotate_left; · intro w0 _; go_simp; try with_reducible rfl
      try simp only [Act.put, List.setIfInBounds_toArray, List.set_cons_zero, List.set_cons_succ]
      refine Go_.done (by kernel_rfl) ?_
      clear hbe
      rcases hxy with ⟨hxy, hXY⟩ | ⟨hxy, hXY⟩
      · go_wp2_with fail
        refine (told9 _).mono ?_
        rintro e w3 ⟨rfl, hb3⟩
        have hf3 := hfin.trans (hb3.mono hfin.size)
        clear hfin hb3
        go_wp2_with fail
        refine (no_put x X hX (by omega) _).mono ?_
        rintro e w4 ⟨A4, c4, rfl, hb4⟩
        have hf4 := hf3.trans (hb4.mono hf3.size)
        clear hf3 hb4
        go_wp2_with fail
        refine (no_put y Y hY (by omega) _).mono ?_
        rintro e w5 ⟨A5, c5, rfl, hb5⟩
        have hf5 := hf4.trans (hb5.mono hf4.size)
        clear hf4 hb5
        go_wp2_with fail
        refine (no_put y Y hY (by omega) _).mono ?_
        rintro e w6 ⟨A6, c6, rfl, hb6⟩
        have hf6 := hf5.trans (hb6.mono hf5.size)
        clear hf5 hb6
        go_wp2_with fail
        go_ret
        exact ⟨ret_boolO (by simp; omega), hf6⟩
      · go_wp2_with fail
        refine (told9 _).mono ?_
        rintro e w3 ⟨rfl, hb3⟩
        have hf3 := hfin.trans (hb3.mono hfin.size)
        clear hfin hb3
        go_wp2_with fail
        refine (no_put y Y hY (by omega) _).mono ?_
        rintro e w4 ⟨A4, c4, rfl, hb4⟩
        have hf4 := hf3.trans (hb4.mono hf3.size)
        clear hf3 hb4
        go_wp2_with fail
        refine (no_put x X hX (by omega) _).mono ?_
        rintro e w5 ⟨A5, c5, rfl, hb5⟩
        have hf5 := hf4.trans (hb5.mono hf4.size)
        clear hf4 hb5
        go_wp2_with fail
        refine (no_put x X hX (by omega) _).mono ?_
        rintro e w6 ⟨A6, c6, rfl, hb6⟩
        have hf6 := hf5.trans (hb6.mono hf5.size)
        clear hf5 hb6
        go_wp2_with fail
        go_ret
        exact ⟨ret_boolO (by simp; omega), hf6⟩
end Go.Proofs.Ytcdklmicbbcknaa
