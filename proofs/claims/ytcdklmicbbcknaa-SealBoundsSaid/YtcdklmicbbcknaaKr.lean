/-
  The reference's KeyOf: what it comes to, by a walk of its text (printed by kr.py).
-/
import Derived.Test.YtcdklmicbbcknaaKo
namespace Go.Proofs.Ytcdklmicbbcknaa
open Go Go.RowKit
theorem rkey_sum (R S z : BitVec 32) (l : List UInt8) (hz : Hid (z = sumW R S l)) (r t : Int) (hr : r = W R) (ht : t = W S) (w : World) (hl : l.length ≤ 100) : Calls Try.prog 27 #[.int .u32 r, .int .u32 t, .string (mkStr l)] w fun e w' => e = .returned (.int .u32 (W z)) ∧ w = w' := by
  subst hr ht
  obtain rfl := hz.out
  exact rsum_mk R S l w (by omega)
theorem kr_mix (k M : K8) (hM : Hid (M = mix k)) (w : World) : Calls Try.prog 45 #[.agg #[.int .u32 (W k.k0), .int .u32 (W k.k1), .int .u32 (W k.k2), .int .u32 (W k.k3), .int .u32 (W k.k4), .int .u32 (W k.k5), .int .u32 (W k.k6), .int .u32 (W k.k7)]] w fun e w' => e = .returned (.agg #[.int .u32 (W M.k0), .int .u32 (W M.k1), .int .u32 (W M.k2), .int .u32 (W M.k3), .int .u32 (W M.k4), .int .u32 (W M.k5), .int .u32 (W M.k6), .int .u32 (W M.k7)]) ∧ Below w.heap.size w w' := by
  obtain rfl := hM.out
  exact rmix_any k w
theorem salt_idx (s : S8) (i : Nat) (a : UInt8) (hi : i < 8) (ha : s.list.getD i 0 = a) (w : World) : (Instr.index 9 (.string (mkStr [s.s0, s.s1, s.s2, s.s3, s.s4, s.s5, s.s6, s.s7])) (.int .i64 (i : Int))).run Try.prog w = .ok (.int .u8 (a.toNat : Int)) w := by
  subst ha
  exact rx_idx s.list i (by simpa [S8.list] using hi) w
attribute [local go_sem] W_add W_sub bits_xor_W bits_or_W bits_or_sw
set_option maxRecDepth 20000 in
set_option maxHeartbeats 16000000 in
theorem rkey_good (l : List UInt8) (s : S8) (n : Nat) (w : World) (hl : l.length ≤ 100) (hn1 : 1 ≤ n) (hn2 : n ≤ 1000) :
    Calls Try.prog 38 #[.string (mkStr l), .string (mkStr [s.s0, s.s1, s.s2, s.s3, s.s4, s.s5, s.s6, s.s7]), .int .i64 n] w fun e w' => e = .returned (.tuple #[.agg (keyL l s n).vals.toArray, .int .i64 0]) ∧ Below w.heap.size w w' := by
  have hsz : (mkStr l).size = l.length := mkStr_size l
  have hsz2 : (mkStr [s.s0, s.s1, s.s2, s.s3, s.s4, s.s5, s.s6, s.s7]).size = 8 := rfl
  have hz0 : Holds ((w.alloc (.cells #[.int .u32 0, .int .u32 0, .int .u32 0, .int .u32 0, .int .u32 0, .int .u32 0, .int .u32 0, .int .u32 0] 32)).alloc (.cells #[.int .u32 0, .int .u32 0, .int .u32 0, .int .u32 0, .int .u32 0, .int .u32 0, .int .u32 0, .int .u32 0] 32)) w.heap.size 32 [.int .u32 0, .int .u32 0, .int .u32 0, .int .u32 0, .int .u32 0, .int .u32 0, .int .u32 0, .int .u32 0] := (Holds.new w 32 [.int .u32 0, .int .u32 0, .int .u32 0, .int .u32 0, .int .u32 0, .int .u32 0, .int .u32 0, .int .u32 0]).alloc _
  have hk0 : Holds ((w.alloc (.cells #[.int .u32 0, .int .u32 0, .int .u32 0, .int .u32 0, .int .u32 0, .int .u32 0, .int .u32 0, .int .u32 0] 32)).alloc (.cells #[.int .u32 0, .int .u32 0, .int .u32 0, .int .u32 0, .int .u32 0, .int .u32 0, .int .u32 0, .int .u32 0] 32)) (w.heap.size + 1) 32 (kwK l s 0).vals := Holds.newAt _ 32 [.int .u32 0, .int .u32 0, .int .u32 0, .int .u32 0, .int .u32 0, .int .u32 0, .int .u32 0, .int .u32 0] (by simp)
  have hb0 : Below w.heap.size w ((w.alloc (.cells #[.int .u32 0, .int .u32 0, .int .u32 0, .int .u32 0, .int .u32 0, .int .u32 0, .int .u32 0, .int .u32 0] 32)).alloc (.cells #[.int .u32 0, .int .u32 0, .int .u32 0, .int .u32 0, .int .u32 0, .int .u32 0, .int .u32 0, .int .u32 0] 32)) := ((Below.refl _ _).alloc (Nat.le_refl _) _).alloc (by simp) _
  go_enter Try.func38, Try.ntmps38
  go_wp2_with fail
  go_loopw [9] (fun v wr => ∃ j : Nat, j ≤ 8 ∧ v = .int .i64 j ∧ Holds wr w.heap.size 32 [.int .u32 0, .int .u32 0, .int .u32 0, .int .u32 0, .int .u32 0, .int .u32 0, .int .u32 0, .int .u32 0] ∧ Holds wr (w.heap.size + 1) 32 (kwK l s j).vals ∧ Below w.heap.size w wr) (fun v _ => 8 - (intOf v).toNat)
  case atStart => exact ⟨0, by omega, rfl, hz0, hk0, hb0⟩
  case round =>
    clear hz0 hk0 hb0
    obtain ⟨j, hj, rfl, hz, hk, hb⟩ := hrel
    by_cases hlt : j < 8
    · obtain rfl | rfl | rfl | rfl | rfl | rfl | rfl | rfl : j = 0 ∨ j = 1 ∨ j = 2 ∨ j = 3 ∨ j = 4 ∨ j = 5 ∨ j = 6 ∨ j = 7 := by omega
      all_goals (go_wp2_with fail)
      · obtain ⟨z, hz9⟩ : ∃ z, Hid (z = sumW (BitVec.ofNat 32 (0 + 2)) (BitVec.ofNat 32 0) l) := ⟨_, rfl⟩
        have HS := Lib.hid (And.intro hz.drew (And.intro hb.drew hk.drew))
        clear hz hb hk
        have hi1 : (IntKind.i64.wrap 1).tmod 8 = 1 := by decide
        have hu0 := u32_byte s.s0
        have hu1 := u32_byte s.s1
        have hor := bits_or_sw2 s.s0 s.s1
        have hx0 : ∀ w, (Instr.index 9 (.string (mkStr [s.s0, s.s1, s.s2, s.s3, s.s4, s.s5, s.s6, s.s7])) (.int .i64 0)).run Try.prog w = .ok (.int .u8 (s.s0.toNat : Int)) w := salt_idx s 0 s.s0 (by omega) rfl
        have hx1 : ∀ w, (Instr.index 9 (.string (mkStr [s.s0, s.s1, s.s2, s.s3, s.s4, s.s5, s.s6, s.s7])) (.int .i64 1)).run Try.prog w = .ok (.int .u8 (s.s1.toNat : Int)) w := salt_idx s 1 s.s1 (by omega) rfl
        refine wp_region_till 22 (fun w' => Holds w' w.heap.size 32 [.int .u32 0, .int .u32 0, .int .u32 0, .int .u32 0, .int .u32 0, .int .u32 0, .int .u32 0, .int .u32 0] ∧ Below w.heap.size w w') (fun w' => Holds w' (w.heap.size + 1) 32 (kwK l s 0).vals) (by kernel_rfl) (⟨HS.out.1, HS.out.2.1⟩) (HS.out.2.2) ?_
        show Go_ _ _ _ _ _ _ _ _ _ _ (World.drew _)
        refine Go_.take (i := 0) (oi := ⟨some 32, Op.move (Operand.tmp 9), 3, _, _, none⟩) (v := ?_) rfl (by kernel_rfl) (by kernel_rfl) (by kernel_rfl) rfl (fun _ _ _ h => h) (Or.inl ⟨by rfl, ?_⟩) ?_
        rotate_left; · intro w0 _; go_simp; try with_reducible rfl
        try simp only [Act.put, List.setIfInBounds_toArray, List.set_cons_zero, List.set_cons_succ]
        refine Go_.take (i := 1) (oi := ⟨some 33, Op.move (Operand.tmp 9), 3, _, _, none⟩) (v := ?_) rfl (by kernel_rfl) (by kernel_rfl) (by kernel_rfl) rfl (fun _ _ _ h => h) (Or.inl ⟨by rfl, ?_⟩) ?_
        rotate_left; · intro w0 _; go_simp; try with_reducible rfl
        try simp only [Act.put, List.setIfInBounds_toArray, List.set_cons_zero, List.set_cons_succ]
        refine Go_.take (i := 2) (oi := ⟨some 34, Op.convert 3 22 (Operand.tmp 33), 22, _, _, none⟩) (v := ?_) rfl (by kernel_rfl) (by kernel_rfl) (by kernel_rfl) rfl (fun _ _ _ h => h) (Or.inl ⟨by rfl, ?_⟩) ?_
        rotate_left; · intro w0 hS; obtain ⟨hzz, hW⟩ := hS; go_simp; try with_reducible rfl
        try simp only [Act.put, List.setIfInBounds_toArray, List.set_cons_zero, List.set_cons_succ]
        refine Go_.take (i := 3) (oi := ⟨some 35, Op.binOp BinOp.add 22 (Operand.tmp 34) (Operand.const (Value.int IntKind.u32 2)) 22, 22, _, _, none⟩) (v := ?_) rfl (by kernel_rfl) (by kernel_rfl) (by kernel_rfl) rfl (fun _ _ _ h => h) (Or.inl ⟨by rfl, ?_⟩) ?_
        rotate_left; · intro w0 _; go_simp; try with_reducible rfl
        try simp only [Act.put, List.setIfInBounds_toArray, List.set_cons_zero, List.set_cons_succ]
        refine Go_.take (i := 4) (oi := ⟨some 36, Op.move (Operand.tmp 9), 3, _, _, none⟩) (v := ?_) rfl (by kernel_rfl) (by kernel_rfl) (by kernel_rfl) rfl (fun _ _ _ h => h) (Or.inl ⟨by rfl, ?_⟩) ?_
        rotate_left; · intro w0 _; go_simp; try with_reducible rfl
        try simp only [Act.put, List.setIfInBounds_toArray, List.set_cons_zero, List.set_cons_succ]
        refine Go_.take (i := 5) (oi := ⟨some 37, Op.convert 3 22 (Operand.tmp 36), 22, _, _, none⟩) (v := ?_) rfl (by kernel_rfl) (by kernel_rfl) (by kernel_rfl) rfl (fun _ _ _ h => h) (Or.inl ⟨by rfl, ?_⟩) ?_
        rotate_left; · intro w0 hS; obtain ⟨hzz, hW⟩ := hS; go_simp; try with_reducible rfl
        try simp only [Act.put, List.setIfInBounds_toArray, List.set_cons_zero, List.set_cons_succ]
        refine Go_.take (i := 6) (oi := ⟨some 38, Op.move (Operand.tmp 0), 9, _, _, none⟩) (v := ?_) rfl (by kernel_rfl) (by kernel_rfl) (by kernel_rfl) rfl (fun _ _ _ h => h) (Or.inl ⟨by rfl, ?_⟩) ?_
        rotate_left; · intro w0 _; go_simp; try with_reducible rfl
        try simp only [Act.put, List.setIfInBounds_toArray, List.set_cons_zero, List.set_cons_succ]
        refine Go_.take (i := 8) (oi := ⟨some 40, Op.move (Operand.tmp 1), 9, _, _, none⟩) (v := ?_) rfl (by kernel_rfl) (by kernel_rfl) (by kernel_rfl) rfl (fun _ _ _ h => h) (Or.inl ⟨by rfl, ?_⟩) ?_
        rotate_left; · intro w0 _; go_simp; try with_reducible rfl
        try simp only [Act.put, List.setIfInBounds_toArray, List.set_cons_zero, List.set_cons_succ]
        refine Go_.take (i := 9) (oi := ⟨some 41, Op.move (Operand.tmp 9), 3, _, _, none⟩) (v := ?_) rfl (by kernel_rfl) (by kernel_rfl) (by kernel_rfl) rfl (fun _ _ _ h => h) (Or.inl ⟨by rfl, ?_⟩) ?_
        rotate_left; · intro w0 _; go_simp; try with_reducible rfl
        try simp only [Act.put, List.setIfInBounds_toArray, List.set_cons_zero, List.set_cons_succ]
        refine Go_.take (i := 10) (oi := ⟨some 42, Op.index 9 (Operand.tmp 40) (Operand.tmp 41), 5, _, _, none⟩) (v := ?_) rfl (by kernel_rfl) (by kernel_rfl) (by kernel_rfl) rfl (fun _ _ _ h => h) (Or.inl ⟨by rfl, ?_⟩) ?_
        rotate_left; · intro w0 _; go_simp; try with_reducible rfl
        try simp only [Act.put, List.setIfInBounds_toArray, List.set_cons_zero, List.set_cons_succ]
        refine Go_.take (i := 11) (oi := ⟨some 43, Op.convert 5 22 (Operand.tmp 42), 22, _, _, none⟩) (v := ?_) rfl (by kernel_rfl) (by kernel_rfl) (by kernel_rfl) rfl (fun _ _ _ h => h) (Or.inl ⟨by rfl, ?_⟩) ?_
        rotate_left; · intro w0 hS; obtain ⟨hzz, hW⟩ := hS; go_simp; try with_reducible rfl
        try simp only [Act.put, List.setIfInBounds_toArray, List.set_cons_zero, List.set_cons_succ]
        refine Go_.take (i := 12) (oi := ⟨some 44, Op.move (Operand.tmp 1), 9, _, _, none⟩) (v := ?_) rfl (by kernel_rfl) (by kernel_rfl) (by kernel_rfl) rfl (fun _ _ _ h => h) (Or.inl ⟨by rfl, ?_⟩) ?_
        rotate_left; · intro w0 _; go_simp; try with_reducible rfl
        try simp only [Act.put, List.setIfInBounds_toArray, List.set_cons_zero, List.set_cons_succ]
        refine Go_.take (i := 13) (oi := ⟨some 45, Op.move (Operand.tmp 9), 3, _, _, none⟩) (v := ?_) rfl (by kernel_rfl) (by kernel_rfl) (by kernel_rfl) rfl (fun _ _ _ h => h) (Or.inl ⟨by rfl, ?_⟩) ?_
        rotate_left; · intro w0 _; go_simp; try with_reducible rfl
        try simp only [Act.put, List.setIfInBounds_toArray, List.set_cons_zero, List.set_cons_succ]
        refine Go_.take (i := 14) (oi := ⟨some 46, Op.binOp BinOp.add 3 (Operand.tmp 45) (Operand.const (Value.int IntKind.i64 1)) 3, 3, _, _, none⟩) (v := ?_) rfl (by kernel_rfl) (by kernel_rfl) (by kernel_rfl) rfl (fun _ _ _ h => h) (Or.inl ⟨by rfl, ?_⟩) ?_
        rotate_left; · intro w0 _; go_simp; try with_reducible rfl
        try simp only [Act.put, List.setIfInBounds_toArray, List.set_cons_zero, List.set_cons_succ]
        refine Go_.take (i := 15) (oi := ⟨some 47, Op.binOp BinOp.rem 3 (Operand.tmp 46) (Operand.const (Value.int IntKind.i64 8)) 3, 3, _, _, none⟩) (v := ?_) rfl (by kernel_rfl) (by kernel_rfl) (by kernel_rfl) rfl (fun _ _ _ h => h) (Or.inl ⟨by rfl, ?_⟩) ?_
        rotate_left; · intro w0 _; go_simp; try with_reducible rfl
        try simp only [Act.put, List.setIfInBounds_toArray, List.set_cons_zero, List.set_cons_succ]
        refine Go_.take (i := 16) (oi := ⟨some 48, Op.index 9 (Operand.tmp 44) (Operand.tmp 47), 5, _, _, none⟩) (v := ?_) rfl (by kernel_rfl) (by kernel_rfl) (by kernel_rfl) rfl (fun _ _ _ h => h) (Or.inl ⟨by rfl, ?_⟩) ?_
        rotate_left; · intro w0 _; go_simp; try with_reducible rfl
        try simp only [Act.put, List.setIfInBounds_toArray, List.set_cons_zero, List.set_cons_succ]
        refine Go_.take (i := 17) (oi := ⟨some 49, Op.convert 5 22 (Operand.tmp 48), 22, _, _, none⟩) (v := ?_) rfl (by kernel_rfl) (by kernel_rfl) (by kernel_rfl) rfl (fun _ _ _ h => h) (Or.inl ⟨by rfl, ?_⟩) ?_
        rotate_left; · intro w0 hS; obtain ⟨hzz, hW⟩ := hS; go_simp; try with_reducible rfl
        try simp only [Act.put, List.setIfInBounds_toArray, List.set_cons_zero, List.set_cons_succ]
        refine Go_.take (i := 18) (oi := ⟨some 50, Op.binOp BinOp.shl 22 (Operand.tmp 49) (Operand.const (Value.int IntKind.u64 8)) 35, 22, _, _, none⟩) (v := ?_) rfl (by kernel_rfl) (by kernel_rfl) (by kernel_rfl) rfl (fun _ _ _ h => h) (Or.inl ⟨by rfl, ?_⟩) ?_
        rotate_left; · intro w0 _; go_simp; try with_reducible rfl
        try simp only [Act.put, List.setIfInBounds_toArray, List.set_cons_zero, List.set_cons_succ]
        refine Go_.take (i := 19) (oi := ⟨some 51, Op.binOp BinOp.or 22 (Operand.tmp 43) (Operand.tmp 50) 22, 22, _, _, none⟩) (v := ?_) rfl (by kernel_rfl) (by kernel_rfl) (by kernel_rfl) rfl (fun _ _ _ h => h) (Or.inl ⟨by rfl, ?_⟩) ?_
        rotate_left; · intro w0 _; go_simp; try with_reducible rfl
        try simp only [Act.put, List.setIfInBounds_toArray, List.set_cons_zero, List.set_cons_succ]
        refine Go_.step (i := 7) (o := ⟨some 39, Op.call { callee := Callee.value (Operand.func 27), args := #[Operand.tmp 35, Operand.tmp 37, Operand.tmp 38], argTypes := #[22, 22, 9] }, 22, _, _, none⟩) (by kernel_rfl) rfl (fun K hT hK => ?_)
        rw [if_pos (by rfl)]
        go_simp
        refine (rkey_sum (BitVec.ofNat 32 (0 + 2)) (BitVec.ofNat 32 0) z l hz9 _ _ rfl rfl _ hl).mono ?_
        rintro e w8 ⟨rfl, rfl⟩
        refine hK.out _ _ (Till.both hT.1 (hT.2 rfl)) ?_
        clear hT hK K
        refine Go_.take (i := 20) (oi := ⟨some 52, Op.binOp BinOp.xor 22 (Operand.tmp 39) (Operand.tmp 51) 22, 22, _, _, none⟩) (v := ?_) rfl (by kernel_rfl) (by kernel_rfl) (by kernel_rfl) rfl (fun _ _ _ h => h) (Or.inl ⟨by rfl, ?_⟩) ?_
        rotate_left; · intro w0 _; go_simp; try with_reducible rfl
        try simp only [Act.put, List.setIfInBounds_toArray, List.set_cons_zero, List.set_cons_succ]
        refine Go_.take (i := 21) (oi := ⟨some 53, Op.indexAddr 32 (Operand.tmp 8) (Operand.tmp 32), 0, _, _, none⟩) (v := ?_) rfl (by kernel_rfl) (by kernel_rfl) (by kernel_rfl) rfl (fun _ _ _ h => h) (Or.inl ⟨by rfl, ?_⟩) ?_
        rotate_left; · intro w0 _; go_simp; try with_reducible rfl
        try simp only [Act.put, List.setIfInBounds_toArray, List.set_cons_zero, List.set_cons_succ]
        refine Go_.step (i := 22) (o := ⟨none, Op.store 22 (Operand.tmp 53) (Operand.tmp 52), 0, _, _, none⟩) (by kernel_rfl) rfl (fun K hT hK => ?_)
        rw [if_pos (by rfl)]
        have h8 := (hT.2 rfl).eight
        have hf := (hT.2 rfl).eightFree
        have hk2 := (hT.2 rfl).set 0 (.int .u32 (W (z ^^^ sw s.s0 s.s1)))
        go_simp
        have hA2 := And.intro (hT.1.1.far (p := ⟨w.heap.size + 1, 0, none⟩) (by show w.heap.size ≠ w.heap.size + 1; omega) (.int .u32 (W (z ^^^ sw s.s0 s.s1)))) (hT.1.2.setCell (p := ⟨w.heap.size + 1, 0, none⟩) (by show w.heap.size ≤ w.heap.size + 1; omega) (.int .u32 (W (z ^^^ sw s.s0 s.s1))))
        refine hK.out _ _ (Till.late rfl hA2) ?_
        clear hT hK K
        refine Go_.done (by kernel_rfl) ?_
        have HK := Lib.hid (And.intro hk2 hA2)
        clear hk2 hA2 HS hx0 hx1
        go_wp2_with fail
        go_round
        case rel => exact ⟨1, by omega, by go_num, HK.out.2.1, (by have e : (kwK l s 0).vals.set 0 (.int .u32 (W (z ^^^ sw s.s0 s.s1))) = (kwK l s 1).vals := (by rw [hz9.out]; rfl) ; exact e ▸ HK.out.1), HK.out.2.2⟩
        case measure => simp [intOf]
      · obtain ⟨z, hz9⟩ : ∃ z, Hid (z = sumW (BitVec.ofNat 32 (1 + 2)) (BitVec.ofNat 32 1) l) := ⟨_, rfl⟩
        have HS := Lib.hid (And.intro hz.drew (And.intro hb.drew hk.drew))
        clear hz hb hk
        have hi1 : (IntKind.i64.wrap 2).tmod 8 = 2 := by decide
        have hu0 := u32_byte s.s1
        have hu1 := u32_byte s.s2
        have hor := bits_or_sw2 s.s1 s.s2
        have hx0 : ∀ w, (Instr.index 9 (.string (mkStr [s.s0, s.s1, s.s2, s.s3, s.s4, s.s5, s.s6, s.s7])) (.int .i64 1)).run Try.prog w = .ok (.int .u8 (s.s1.toNat : Int)) w := salt_idx s 1 s.s1 (by omega) rfl
        have hx1 : ∀ w, (Instr.index 9 (.string (mkStr [s.s0, s.s1, s.s2, s.s3, s.s4, s.s5, s.s6, s.s7])) (.int .i64 2)).run Try.prog w = .ok (.int .u8 (s.s2.toNat : Int)) w := salt_idx s 2 s.s2 (by omega) rfl
        refine wp_region_till 22 (fun w' => Holds w' w.heap.size 32 [.int .u32 0, .int .u32 0, .int .u32 0, .int .u32 0, .int .u32 0, .int .u32 0, .int .u32 0, .int .u32 0] ∧ Below w.heap.size w w') (fun w' => Holds w' (w.heap.size + 1) 32 (kwK l s 1).vals) (by kernel_rfl) (⟨HS.out.1, HS.out.2.1⟩) (HS.out.2.2) ?_
        show Go_ _ _ _ _ _ _ _ _ _ _ (World.drew _)
        refine Go_.take (i := 0) (oi := ⟨some 32, Op.move (Operand.tmp 9), 3, _, _, none⟩) (v := ?_) rfl (by kernel_rfl) (by kernel_rfl) (by kernel_rfl) rfl (fun _ _ _ h => h) (Or.inl ⟨by rfl, ?_⟩) ?_
        rotate_left; · intro w0 _; go_simp; try with_reducible rfl
        try simp only [Act.put, List.setIfInBounds_toArray, List.set_cons_zero, List.set_cons_succ]
        refine Go_.take (i := 1) (oi := ⟨some 33, Op.move (Operand.tmp 9), 3, _, _, none⟩) (v := ?_) rfl (by kernel_rfl) (by kernel_rfl) (by kernel_rfl) rfl (fun _ _ _ h => h) (Or.inl ⟨by rfl, ?_⟩) ?_
        rotate_left; · intro w0 _; go_simp; try with_reducible rfl
        try simp only [Act.put, List.setIfInBounds_toArray, List.set_cons_zero, List.set_cons_succ]
        refine Go_.take (i := 2) (oi := ⟨some 34, Op.convert 3 22 (Operand.tmp 33), 22, _, _, none⟩) (v := ?_) rfl (by kernel_rfl) (by kernel_rfl) (by kernel_rfl) rfl (fun _ _ _ h => h) (Or.inl ⟨by rfl, ?_⟩) ?_
        rotate_left; · intro w0 hS; obtain ⟨hzz, hW⟩ := hS; go_simp; try with_reducible rfl
        try simp only [Act.put, List.setIfInBounds_toArray, List.set_cons_zero, List.set_cons_succ]
        refine Go_.take (i := 3) (oi := ⟨some 35, Op.binOp BinOp.add 22 (Operand.tmp 34) (Operand.const (Value.int IntKind.u32 2)) 22, 22, _, _, none⟩) (v := ?_) rfl (by kernel_rfl) (by kernel_rfl) (by kernel_rfl) rfl (fun _ _ _ h => h) (Or.inl ⟨by rfl, ?_⟩) ?_
        rotate_left; · intro w0 _; go_simp; try with_reducible rfl
        try simp only [Act.put, List.setIfInBounds_toArray, List.set_cons_zero, List.set_cons_succ]
        refine Go_.take (i := 4) (oi := ⟨some 36, Op.move (Operand.tmp 9), 3, _, _, none⟩) (v := ?_) rfl (by kernel_rfl) (by kernel_rfl) (by kernel_rfl) rfl (fun _ _ _ h => h) (Or.inl ⟨by rfl, ?_⟩) ?_
        rotate_left; · intro w0 _; go_simp; try with_reducible rfl
        try simp only [Act.put, List.setIfInBounds_toArray, List.set_cons_zero, List.set_cons_succ]
        refine Go_.take (i := 5) (oi := ⟨some 37, Op.convert 3 22 (Operand.tmp 36), 22, _, _, none⟩) (v := ?_) rfl (by kernel_rfl) (by kernel_rfl) (by kernel_rfl) rfl (fun _ _ _ h => h) (Or.inl ⟨by rfl, ?_⟩) ?_
        rotate_left; · intro w0 hS; obtain ⟨hzz, hW⟩ := hS; go_simp; try with_reducible rfl
        try simp only [Act.put, List.setIfInBounds_toArray, List.set_cons_zero, List.set_cons_succ]
        refine Go_.take (i := 6) (oi := ⟨some 38, Op.move (Operand.tmp 0), 9, _, _, none⟩) (v := ?_) rfl (by kernel_rfl) (by kernel_rfl) (by kernel_rfl) rfl (fun _ _ _ h => h) (Or.inl ⟨by rfl, ?_⟩) ?_
        rotate_left; · intro w0 _; go_simp; try with_reducible rfl
        try simp only [Act.put, List.setIfInBounds_toArray, List.set_cons_zero, List.set_cons_succ]
        refine Go_.take (i := 8) (oi := ⟨some 40, Op.move (Operand.tmp 1), 9, _, _, none⟩) (v := ?_) rfl (by kernel_rfl) (by kernel_rfl) (by kernel_rfl) rfl (fun _ _ _ h => h) (Or.inl ⟨by rfl, ?_⟩) ?_
        rotate_left; · intro w0 _; go_simp; try with_reducible rfl
        try simp only [Act.put, List.setIfInBounds_toArray, List.set_cons_zero, List.set_cons_succ]
        refine Go_.take (i := 9) (oi := ⟨some 41, Op.move (Operand.tmp 9), 3, _, _, none⟩) (v := ?_) rfl (by kernel_rfl) (by kernel_rfl) (by kernel_rfl) rfl (fun _ _ _ h => h) (Or.inl ⟨by rfl, ?_⟩) ?_
        rotate_left; · intro w0 _; go_simp; try with_reducible rfl
        try simp only [Act.put, List.setIfInBounds_toArray, List.set_cons_zero, List.set_cons_succ]
        refine Go_.take (i := 10) (oi := ⟨some 42, Op.index 9 (Operand.tmp 40) (Operand.tmp 41), 5, _, _, none⟩) (v := ?_) rfl (by kernel_rfl) (by kernel_rfl) (by kernel_rfl) rfl (fun _ _ _ h => h) (Or.inl ⟨by rfl, ?_⟩) ?_
        rotate_left; · intro w0 _; go_simp; try with_reducible rfl
        try simp only [Act.put, List.setIfInBounds_toArray, List.set_cons_zero, List.set_cons_succ]
        refine Go_.take (i := 11) (oi := ⟨some 43, Op.convert 5 22 (Operand.tmp 42), 22, _, _, none⟩) (v := ?_) rfl (by kernel_rfl) (by kernel_rfl) (by kernel_rfl) rfl (fun _ _ _ h => h) (Or.inl ⟨by rfl, ?_⟩) ?_
        rotate_left; · intro w0 hS; obtain ⟨hzz, hW⟩ := hS; go_simp; try with_reducible rfl
        try simp only [Act.put, List.setIfInBounds_toArray, List.set_cons_zero, List.set_cons_succ]
        refine Go_.take (i := 12) (oi := ⟨some 44, Op.move (Operand.tmp 1), 9, _, _, none⟩) (v := ?_) rfl (by kernel_rfl) (by kernel_rfl) (by kernel_rfl) rfl (fun _ _ _ h => h) (Or.inl ⟨by rfl, ?_⟩) ?_
        rotate_left; · intro w0 _; go_simp; try with_reducible rfl
        try simp only [Act.put, List.setIfInBounds_toArray, List.set_cons_zero, List.set_cons_succ]
        refine Go_.take (i := 13) (oi := ⟨some 45, Op.move (Operand.tmp 9), 3, _, _, none⟩) (v := ?_) rfl (by kernel_rfl) (by kernel_rfl) (by kernel_rfl) rfl (fun _ _ _ h => h) (Or.inl ⟨by rfl, ?_⟩) ?_
        rotate_left; · intro w0 _; go_simp; try with_reducible rfl
        try simp only [Act.put, List.setIfInBounds_toArray, List.set_cons_zero, List.set_cons_succ]
        refine Go_.take (i := 14) (oi := ⟨some 46, Op.binOp BinOp.add 3 (Operand.tmp 45) (Operand.const (Value.int IntKind.i64 1)) 3, 3, _, _, none⟩) (v := ?_) rfl (by kernel_rfl) (by kernel_rfl) (by kernel_rfl) rfl (fun _ _ _ h => h) (Or.inl ⟨by rfl, ?_⟩) ?_
        rotate_left; · intro w0 _; go_simp; try with_reducible rfl
        try simp only [Act.put, List.setIfInBounds_toArray, List.set_cons_zero, List.set_cons_succ]
        refine Go_.take (i := 15) (oi := ⟨some 47, Op.binOp BinOp.rem 3 (Operand.tmp 46) (Operand.const (Value.int IntKind.i64 8)) 3, 3, _, _, none⟩) (v := ?_) rfl (by kernel_rfl) (by kernel_rfl) (by kernel_rfl) rfl (fun _ _ _ h => h) (Or.inl ⟨by rfl, ?_⟩) ?_
        rotate_left; · intro w0 _; go_simp; try with_reducible rfl
        try simp only [Act.put, List.setIfInBounds_toArray, List.set_cons_zero, List.set_cons_succ]
        refine Go_.take (i := 16) (oi := ⟨some 48, Op.index 9 (Operand.tmp 44) (Operand.tmp 47), 5, _, _, none⟩) (v := ?_) rfl (by kernel_rfl) (by kernel_rfl) (by kernel_rfl) rfl (fun _ _ _ h => h) (Or.inl ⟨by rfl, ?_⟩) ?_
        rotate_left; · intro w0 _; go_simp; try with_reducible rfl
        try simp only [Act.put, List.setIfInBounds_toArray, List.set_cons_zero, List.set_cons_succ]
        refine Go_.take (i := 17) (oi := ⟨some 49, Op.convert 5 22 (Operand.tmp 48), 22, _, _, none⟩) (v := ?_) rfl (by kernel_rfl) (by kernel_rfl) (by kernel_rfl) rfl (fun _ _ _ h => h) (Or.inl ⟨by rfl, ?_⟩) ?_
        rotate_left; · intro w0 hS; obtain ⟨hzz, hW⟩ := hS; go_simp; try with_reducible rfl
        try simp only [Act.put, List.setIfInBounds_toArray, List.set_cons_zero, List.set_cons_succ]
        refine Go_.take (i := 18) (oi := ⟨some 50, Op.binOp BinOp.shl 22 (Operand.tmp 49) (Operand.const (Value.int IntKind.u64 8)) 35, 22, _, _, none⟩) (v := ?_) rfl (by kernel_rfl) (by kernel_rfl) (by kernel_rfl) rfl (fun _ _ _ h => h) (Or.inl ⟨by rfl, ?_⟩) ?_
        rotate_left; · intro w0 _; go_simp; try with_reducible rfl
        try simp only [Act.put, List.setIfInBounds_toArray, List.set_cons_zero, List.set_cons_succ]
        refine Go_.take (i := 19) (oi := ⟨some 51, Op.binOp BinOp.or 22 (Operand.tmp 43) (Operand.tmp 50) 22, 22, _, _, none⟩) (v := ?_) rfl (by kernel_rfl) (by kernel_rfl) (by kernel_rfl) rfl (fun _ _ _ h => h) (Or.inl ⟨by rfl, ?_⟩) ?_
        rotate_left; · intro w0 _; go_simp; try with_reducible rfl
        try simp only [Act.put, List.setIfInBounds_toArray, List.set_cons_zero, List.set_cons_succ]
        refine Go_.step (i := 7) (o := ⟨some 39, Op.call { callee := Callee.value (Operand.func 27), args := #[Operand.tmp 35, Operand.tmp 37, Operand.tmp 38], argTypes := #[22, 22, 9] }, 22, _, _, none⟩) (by kernel_rfl) rfl (fun K hT hK => ?_)
        rw [if_pos (by rfl)]
        go_simp
        refine (rkey_sum (BitVec.ofNat 32 (1 + 2)) (BitVec.ofNat 32 1) z l hz9 _ _ rfl rfl _ hl).mono ?_
        rintro e w8 ⟨rfl, rfl⟩
        refine hK.out _ _ (Till.both hT.1 (hT.2 rfl)) ?_
        clear hT hK K
        refine Go_.take (i := 20) (oi := ⟨some 52, Op.binOp BinOp.xor 22 (Operand.tmp 39) (Operand.tmp 51) 22, 22, _, _, none⟩) (v := ?_) rfl (by kernel_rfl) (by kernel_rfl) (by kernel_rfl) rfl (fun _ _ _ h => h) (Or.inl ⟨by rfl, ?_⟩) ?_
        rotate_left; · intro w0 _; go_simp; try with_reducible rfl
        try simp only [Act.put, List.setIfInBounds_toArray, List.set_cons_zero, List.set_cons_succ]
        refine Go_.take (i := 21) (oi := ⟨some 53, Op.indexAddr 32 (Operand.tmp 8) (Operand.tmp 32), 0, _, _, none⟩) (v := ?_) rfl (by kernel_rfl) (by kernel_rfl) (by kernel_rfl) rfl (fun _ _ _ h => h) (Or.inl ⟨by rfl, ?_⟩) ?_
        rotate_left; · intro w0 _; go_simp; try with_reducible rfl
        try simp only [Act.put, List.setIfInBounds_toArray, List.set_cons_zero, List.set_cons_succ]
        refine Go_.step (i := 22) (o := ⟨none, Op.store 22 (Operand.tmp 53) (Operand.tmp 52), 0, _, _, none⟩) (by kernel_rfl) rfl (fun K hT hK => ?_)
        rw [if_pos (by rfl)]
        have h8 := (hT.2 rfl).eight
        have hf := (hT.2 rfl).eightFree
        have hk2 := (hT.2 rfl).set 1 (.int .u32 (W (z ^^^ sw s.s1 s.s2)))
        go_simp
        have hA2 := And.intro (hT.1.1.far (p := ⟨w.heap.size + 1, 1, none⟩) (by show w.heap.size ≠ w.heap.size + 1; omega) (.int .u32 (W (z ^^^ sw s.s1 s.s2)))) (hT.1.2.setCell (p := ⟨w.heap.size + 1, 1, none⟩) (by show w.heap.size ≤ w.heap.size + 1; omega) (.int .u32 (W (z ^^^ sw s.s1 s.s2))))
        refine hK.out _ _ (Till.late rfl hA2) ?_
        clear hT hK K
        refine Go_.done (by kernel_rfl) ?_
        have HK := Lib.hid (And.intro hk2 hA2)
        clear hk2 hA2 HS hx0 hx1
        go_wp2_with fail
        go_round
        case rel => exact ⟨2, by omega, by go_num, HK.out.2.1, (by have e : (kwK l s 1).vals.set 1 (.int .u32 (W (z ^^^ sw s.s1 s.s2))) = (kwK l s 2).vals := (by rw [hz9.out]; rfl) ; exact e ▸ HK.out.1), HK.out.2.2⟩
        case measure => simp [intOf]
      · obtain ⟨z, hz9⟩ : ∃ z, Hid (z = sumW (BitVec.ofNat 32 (2 + 2)) (BitVec.ofNat 32 2) l) := ⟨_, rfl⟩
        have HS := Lib.hid (And.intro hz.drew (And.intro hb.drew hk.drew))
        clear hz hb hk
        have hi1 : (IntKind.i64.wrap 3).tmod 8 = 3 := by decide
        have hu0 := u32_byte s.s2
        have hu1 := u32_byte s.s3
        have hor := bits_or_sw2 s.s2 s.s3
        have hx0 : ∀ w, (Instr.index 9 (.string (mkStr [s.s0, s.s1, s.s2, s.s3, s.s4, s.s5, s.s6, s.s7])) (.int .i64 2)).run Try.prog w = .ok (.int .u8 (s.s2.toNat : Int)) w := salt_idx s 2 s.s2 (by omega) rfl
        have hx1 : ∀ w, (Instr.index 9 (.string (mkStr [s.s0, s.s1, s.s2, s.s3, s.s4, s.s5, s.s6, s.s7])) (.int .i64 3)).run Try.prog w = .ok (.int .u8 (s.s3.toNat : Int)) w := salt_idx s 3 s.s3 (by omega) rfl
        refine wp_region_till 22 (fun w' => Holds w' w.heap.size 32 [.int .u32 0, .int .u32 0, .int .u32 0, .int .u32 0, .int .u32 0, .int .u32 0, .int .u32 0, .int .u32 0] ∧ Below w.heap.size w w') (fun w' => Holds w' (w.heap.size + 1) 32 (kwK l s 2).vals) (by kernel_rfl) (⟨HS.out.1, HS.out.2.1⟩) (HS.out.2.2) ?_
        show Go_ _ _ _ _ _ _ _ _ _ _ (World.drew _)
        refine Go_.take (i := 0) (oi := ⟨some 32, Op.move (Operand.tmp 9), 3, _, _, none⟩) (v := ?_) rfl (by kernel_rfl) (by kernel_rfl) (by kernel_rfl) rfl (fun _ _ _ h => h) (Or.inl ⟨by rfl, ?_⟩) ?_
        rotate_left; · intro w0 _; go_simp; try with_reducible rfl
        try simp only [Act.put, List.setIfInBounds_toArray, List.set_cons_zero, List.set_cons_succ]
        refine Go_.take (i := 1) (oi := ⟨some 33, Op.move (Operand.tmp 9), 3, _, _, none⟩) (v := ?_) rfl (by kernel_rfl) (by kernel_rfl) (by kernel_rfl) rfl (fun _ _ _ h => h) (Or.inl ⟨by rfl, ?_⟩) ?_
        rotate_left; · intro w0 _; go_simp; try with_reducible rfl
        try simp only [Act.put, List.setIfInBounds_toArray, List.set_cons_zero, List.set_cons_succ]
        refine Go_.take (i := 2) (oi := ⟨some 34, Op.convert 3 22 (Operand.tmp 33), 22, _, _, none⟩) (v := ?_) rfl (by kernel_rfl) (by kernel_rfl) (by kernel_rfl) rfl (fun _ _ _ h => h) (Or.inl ⟨by rfl, ?_⟩) ?_
        rotate_left; · intro w0 hS; obtain ⟨hzz, hW⟩ := hS; go_simp; try with_reducible rfl
        try simp only [Act.put, List.setIfInBounds_toArray, List.set_cons_zero, List.set_cons_succ]
        refine Go_.take (i := 3) (oi := ⟨some 35, Op.binOp BinOp.add 22 (Operand.tmp 34) (Operand.const (Value.int IntKind.u32 2)) 22, 22, _, _, none⟩) (v := ?_) rfl (by kernel_rfl) (by kernel_rfl) (by kernel_rfl) rfl (fun _ _ _ h => h) (Or.inl ⟨by rfl, ?_⟩) ?_
        rotate_left; · intro w0 _; go_simp; try with_reducible rfl
        try simp only [Act.put, List.setIfInBounds_toArray, List.set_cons_zero, List.set_cons_succ]
        refine Go_.take (i := 4) (oi := ⟨some 36, Op.move (Operand.tmp 9), 3, _, _, none⟩) (v := ?_) rfl (by kernel_rfl) (by kernel_rfl) (by kernel_rfl) rfl (fun _ _ _ h => h) (Or.inl ⟨by rfl, ?_⟩) ?_
        rotate_left; · intro w0 _; go_simp; try with_reducible rfl
        try simp only [Act.put, List.setIfInBounds_toArray, List.set_cons_zero, List.set_cons_succ]
        refine Go_.take (i := 5) (oi := ⟨some 37, Op.convert 3 22 (Operand.tmp 36), 22, _, _, none⟩) (v := ?_) rfl (by kernel_rfl) (by kernel_rfl) (by kernel_rfl) rfl (fun _ _ _ h => h) (Or.inl ⟨by rfl, ?_⟩) ?_
        rotate_left; · intro w0 hS; obtain ⟨hzz, hW⟩ := hS; go_simp; try with_reducible rfl
        try simp only [Act.put, List.setIfInBounds_toArray, List.set_cons_zero, List.set_cons_succ]
        refine Go_.take (i := 6) (oi := ⟨some 38, Op.move (Operand.tmp 0), 9, _, _, none⟩) (v := ?_) rfl (by kernel_rfl) (by kernel_rfl) (by kernel_rfl) rfl (fun _ _ _ h => h) (Or.inl ⟨by rfl, ?_⟩) ?_
        rotate_left; · intro w0 _; go_simp; try with_reducible rfl
        try simp only [Act.put, List.setIfInBounds_toArray, List.set_cons_zero, List.set_cons_succ]
        refine Go_.take (i := 8) (oi := ⟨some 40, Op.move (Operand.tmp 1), 9, _, _, none⟩) (v := ?_) rfl (by kernel_rfl) (by kernel_rfl) (by kernel_rfl) rfl (fun _ _ _ h => h) (Or.inl ⟨by rfl, ?_⟩) ?_
        rotate_left; · intro w0 _; go_simp; try with_reducible rfl
        try simp only [Act.put, List.setIfInBounds_toArray, List.set_cons_zero, List.set_cons_succ]
        refine Go_.take (i := 9) (oi := ⟨some 41, Op.move (Operand.tmp 9), 3, _, _, none⟩) (v := ?_) rfl (by kernel_rfl) (by kernel_rfl) (by kernel_rfl) rfl (fun _ _ _ h => h) (Or.inl ⟨by rfl, ?_⟩) ?_
        rotate_left; · intro w0 _; go_simp; try with_reducible rfl
        try simp only [Act.put, List.setIfInBounds_toArray, List.set_cons_zero, List.set_cons_succ]
        refine Go_.take (i := 10) (oi := ⟨some 42, Op.index 9 (Operand.tmp 40) (Operand.tmp 41), 5, _, _, none⟩) (v := ?_) rfl (by kernel_rfl) (by kernel_rfl) (by kernel_rfl) rfl (fun _ _ _ h => h) (Or.inl ⟨by rfl, ?_⟩) ?_
        rotate_left; · intro w0 _; go_simp; try with_reducible rfl
        try simp only [Act.put, List.setIfInBounds_toArray, List.set_cons_zero, List.set_cons_succ]
        refine Go_.take (i := 11) (oi := ⟨some 43, Op.convert 5 22 (Operand.tmp 42), 22, _, _, none⟩) (v := ?_) rfl (by kernel_rfl) (by kernel_rfl) (by kernel_rfl) rfl (fun _ _ _ h => h) (Or.inl ⟨by rfl, ?_⟩) ?_
        rotate_left; · intro w0 hS; obtain ⟨hzz, hW⟩ := hS; go_simp; try with_reducible rfl
        try simp only [Act.put, List.setIfInBounds_toArray, List.set_cons_zero, List.set_cons_succ]
        refine Go_.take (i := 12) (oi := ⟨some 44, Op.move (Operand.tmp 1), 9, _, _, none⟩) (v := ?_) rfl (by kernel_rfl) (by kernel_rfl) (by kernel_rfl) rfl (fun _ _ _ h => h) (Or.inl ⟨by rfl, ?_⟩) ?_
        rotate_left; · intro w0 _; go_simp; try with_reducible rfl
        try simp only [Act.put, List.setIfInBounds_toArray, List.set_cons_zero, List.set_cons_succ]
        refine Go_.take (i := 13) (oi := ⟨some 45, Op.move (Operand.tmp 9), 3, _, _, none⟩) (v := ?_) rfl (by kernel_rfl) (by kernel_rfl) (by kernel_rfl) rfl (fun _ _ _ h => h) (Or.inl ⟨by rfl, ?_⟩) ?_
        rotate_left; · intro w0 _; go_simp; try with_reducible rfl
        try simp only [Act.put, List.setIfInBounds_toArray, List.set_cons_zero, List.set_cons_succ]
        refine Go_.take (i := 14) (oi := ⟨some 46, Op.binOp BinOp.add 3 (Operand.tmp 45) (Operand.const (Value.int IntKind.i64 1)) 3, 3, _, _, none⟩) (v := ?_) rfl (by kernel_rfl) (by kernel_rfl) (by kernel_rfl) rfl (fun _ _ _ h => h) (Or.inl ⟨by rfl, ?_⟩) ?_
        rotate_left; · intro w0 _; go_simp; try with_reducible rfl
        try simp only [Act.put, List.setIfInBounds_toArray, List.set_cons_zero, List.set_cons_succ]
        refine Go_.take (i := 15) (oi := ⟨some 47, Op.binOp BinOp.rem 3 (Operand.tmp 46) (Operand.const (Value.int IntKind.i64 8)) 3, 3, _, _, none⟩) (v := ?_) rfl (by kernel_rfl) (by kernel_rfl) (by kernel_rfl) rfl (fun _ _ _ h => h) (Or.inl ⟨by rfl, ?_⟩) ?_
        rotate_left; · intro w0 _; go_simp; try with_reducible rfl
        try simp only [Act.put, List.setIfInBounds_toArray, List.set_cons_zero, List.set_cons_succ]
        refine Go_.take (i := 16) (oi := ⟨some 48, Op.index 9 (Operand.tmp 44) (Operand.tmp 47), 5, _, _, none⟩) (v := ?_) rfl (by kernel_rfl) (by kernel_rfl) (by kernel_rfl) rfl (fun _ _ _ h => h) (Or.inl ⟨by rfl, ?_⟩) ?_
        rotate_left; · intro w0 _; go_simp; try with_reducible rfl
        try simp only [Act.put, List.setIfInBounds_toArray, List.set_cons_zero, List.set_cons_succ]
        refine Go_.take (i := 17) (oi := ⟨some 49, Op.convert 5 22 (Operand.tmp 48), 22, _, _, none⟩) (v := ?_) rfl (by kernel_rfl) (by kernel_rfl) (by kernel_rfl) rfl (fun _ _ _ h => h) (Or.inl ⟨by rfl, ?_⟩) ?_
        rotate_left; · intro w0 hS; obtain ⟨hzz, hW⟩ := hS; go_simp; try with_reducible rfl
        try simp only [Act.put, List.setIfInBounds_toArray, List.set_cons_zero, List.set_cons_succ]
        refine Go_.take (i := 18) (oi := ⟨some 50, Op.binOp BinOp.shl 22 (Operand.tmp 49) (Operand.const (Value.int IntKind.u64 8)) 35, 22, _, _, none⟩) (v := ?_) rfl (by kernel_rfl) (by kernel_rfl) (by kernel_rfl) rfl (fun _ _ _ h => h) (Or.inl ⟨by rfl, ?_⟩) ?_
        rotate_left; · intro w0 _; go_simp; try with_reducible rfl
        try simp only [Act.put, List.setIfInBounds_toArray, List.set_cons_zero, List.set_cons_succ]
        refine Go_.take (i := 19) (oi := ⟨some 51, Op.binOp BinOp.or 22 (Operand.tmp 43) (Operand.tmp 50) 22, 22, _, _, none⟩) (v := ?_) rfl (by kernel_rfl) (by kernel_rfl) (by kernel_rfl) rfl (fun _ _ _ h => h) (Or.inl ⟨by rfl, ?_⟩) ?_
        rotate_left; · intro w0 _; go_simp; try with_reducible rfl
        try simp only [Act.put, List.setIfInBounds_toArray, List.set_cons_zero, List.set_cons_succ]
        refine Go_.step (i := 7) (o := ⟨some 39, Op.call { callee := Callee.value (Operand.func 27), args := #[Operand.tmp 35, Operand.tmp 37, Operand.tmp 38], argTypes := #[22, 22, 9] }, 22, _, _, none⟩) (by kernel_rfl) rfl (fun K hT hK => ?_)
        rw [if_pos (by rfl)]
        go_simp
        refine (rkey_sum (BitVec.ofNat 32 (2 + 2)) (BitVec.ofNat 32 2) z l hz9 _ _ rfl rfl _ hl).mono ?_
        rintro e w8 ⟨rfl, rfl⟩
        refine hK.out _ _ (Till.both hT.1 (hT.2 rfl)) ?_
        clear hT hK K
        refine Go_.take (i := 20) (oi := ⟨some 52, Op.binOp BinOp.xor 22 (Operand.tmp 39) (Operand.tmp 51) 22, 22, _, _, none⟩) (v := ?_) rfl (by kernel_rfl) (by kernel_rfl) (by kernel_rfl) rfl (fun _ _ _ h => h) (Or.inl ⟨by rfl, ?_⟩) ?_
        rotate_left; · intro w0 _; go_simp; try with_reducible rfl
        try simp only [Act.put, List.setIfInBounds_toArray, List.set_cons_zero, List.set_cons_succ]
        refine Go_.take (i := 21) (oi := ⟨some 53, Op.indexAddr 32 (Operand.tmp 8) (Operand.tmp 32), 0, _, _, none⟩) (v := ?_) rfl (by kernel_rfl) (by kernel_rfl) (by kernel_rfl) rfl (fun _ _ _ h => h) (Or.inl ⟨by rfl, ?_⟩) ?_
        rotate_left; · intro w0 _; go_simp; try with_reducible rfl
        try simp only [Act.put, List.setIfInBounds_toArray, List.set_cons_zero, List.set_cons_succ]
        refine Go_.step (i := 22) (o := ⟨none, Op.store 22 (Operand.tmp 53) (Operand.tmp 52), 0, _, _, none⟩) (by kernel_rfl) rfl (fun K hT hK => ?_)
        rw [if_pos (by rfl)]
        have h8 := (hT.2 rfl).eight
        have hf := (hT.2 rfl).eightFree
        have hk2 := (hT.2 rfl).set 2 (.int .u32 (W (z ^^^ sw s.s2 s.s3)))
        go_simp
        have hA2 := And.intro (hT.1.1.far (p := ⟨w.heap.size + 1, 2, none⟩) (by show w.heap.size ≠ w.heap.size + 1; omega) (.int .u32 (W (z ^^^ sw s.s2 s.s3)))) (hT.1.2.setCell (p := ⟨w.heap.size + 1, 2, none⟩) (by show w.heap.size ≤ w.heap.size + 1; omega) (.int .u32 (W (z ^^^ sw s.s2 s.s3))))
        refine hK.out _ _ (Till.late rfl hA2) ?_
        clear hT hK K
        refine Go_.done (by kernel_rfl) ?_
        have HK := Lib.hid (And.intro hk2 hA2)
        clear hk2 hA2 HS hx0 hx1
        go_wp2_with fail
        go_round
        case rel => exact ⟨3, by omega, by go_num, HK.out.2.1, (by have e : (kwK l s 2).vals.set 2 (.int .u32 (W (z ^^^ sw s.s2 s.s3))) = (kwK l s 3).vals := (by rw [hz9.out]; rfl) ; exact e ▸ HK.out.1), HK.out.2.2⟩
        case measure => simp [intOf]
      · obtain ⟨z, hz9⟩ : ∃ z, Hid (z = sumW (BitVec.ofNat 32 (3 + 2)) (BitVec.ofNat 32 3) l) := ⟨_, rfl⟩
        have HS := Lib.hid (And.intro hz.drew (And.intro hb.drew hk.drew))
        clear hz hb hk
        have hi1 : (IntKind.i64.wrap 4).tmod 8 = 4 := by decide
        have hu0 := u32_byte s.s3
        have hu1 := u32_byte s.s4
        have hor := bits_or_sw2 s.s3 s.s4
        have hx0 : ∀ w, (Instr.index 9 (.string (mkStr [s.s0, s.s1, s.s2, s.s3, s.s4, s.s5, s.s6, s.s7])) (.int .i64 3)).run Try.prog w = .ok (.int .u8 (s.s3.toNat : Int)) w := salt_idx s 3 s.s3 (by omega) rfl
        have hx1 : ∀ w, (Instr.index 9 (.string (mkStr [s.s0, s.s1, s.s2, s.s3, s.s4, s.s5, s.s6, s.s7])) (.int .i64 4)).run Try.prog w = .ok (.int .u8 (s.s4.toNat : Int)) w := salt_idx s 4 s.s4 (by omega) rfl
        refine wp_region_till 22 (fun w' => Holds w' w.heap.size 32 [.int .u32 0, .int .u32 0, .int .u32 0, .int .u32 0, .int .u32 0, .int .u32 0, .int .u32 0, .int .u32 0] ∧ Below w.heap.size w w') (fun w' => Holds w' (w.heap.size + 1) 32 (kwK l s 3).vals) (by kernel_rfl) (⟨HS.out.1, HS.out.2.1⟩) (HS.out.2.2) ?_
        show Go_ _ _ _ _ _ _ _ _ _ _ (World.drew _)
        refine Go_.take (i := 0) (oi := ⟨some 32, Op.move (Operand.tmp 9), 3, _, _, none⟩) (v := ?_) rfl (by kernel_rfl) (by kernel_rfl) (by kernel_rfl) rfl (fun _ _ _ h => h) (Or.inl ⟨by rfl, ?_⟩) ?_
        rotate_left; · intro w0 _; go_simp; try with_reducible rfl
        try simp only [Act.put, List.setIfInBounds_toArray, List.set_cons_zero, List.set_cons_succ]
        refine Go_.take (i := 1) (oi := ⟨some 33, Op.move (Operand.tmp 9), 3, _, _, none⟩) (v := ?_) rfl (by kernel_rfl) (by kernel_rfl) (by kernel_rfl) rfl (fun _ _ _ h => h) (Or.inl ⟨by rfl, ?_⟩) ?_
        rotate_left; · intro w0 _; go_simp; try with_reducible rfl
        try simp only [Act.put, List.setIfInBounds_toArray, List.set_cons_zero, List.set_cons_succ]
        refine Go_.take (i := 2) (oi := ⟨some 34, Op.convert 3 22 (Operand.tmp 33), 22, _, _, none⟩) (v := ?_) rfl (by kernel_rfl) (by kernel_rfl) (by kernel_rfl) rfl (fun _ _ _ h => h) (Or.inl ⟨by rfl, ?_⟩) ?_
        rotate_left; · intro w0 hS; obtain ⟨hzz, hW⟩ := hS; go_simp; try with_reducible rfl
        try simp only [Act.put, List.setIfInBounds_toArray, List.set_cons_zero, List.set_cons_succ]
        refine Go_.take (i := 3) (oi := ⟨some 35, Op.binOp BinOp.add 22 (Operand.tmp 34) (Operand.const (Value.int IntKind.u32 2)) 22, 22, _, _, none⟩) (v := ?_) rfl (by kernel_rfl) (by kernel_rfl) (by kernel_rfl) rfl (fun _ _ _ h => h) (Or.inl ⟨by rfl, ?_⟩) ?_
        rotate_left; · intro w0 _; go_simp; try with_reducible rfl
        try simp only [Act.put, List.setIfInBounds_toArray, List.set_cons_zero, List.set_cons_succ]
        refine Go_.take (i := 4) (oi := ⟨some 36, Op.move (Operand.tmp 9), 3, _, _, none⟩) (v := ?_) rfl (by kernel_rfl) (by kernel_rfl) (by kernel_rfl) rfl (fun _ _ _ h => h) (Or.inl ⟨by rfl, ?_⟩) ?_
        rotate_left; · intro w0 _; go_simp; try with_reducible rfl
        try simp only [Act.put, List.setIfInBounds_toArray, List.set_cons_zero, List.set_cons_succ]
        refine Go_.take (i := 5) (oi := ⟨some 37, Op.convert 3 22 (Operand.tmp 36), 22, _, _, none⟩) (v := ?_) rfl (by kernel_rfl) (by kernel_rfl) (by kernel_rfl) rfl (fun _ _ _ h => h) (Or.inl ⟨by rfl, ?_⟩) ?_
        rotate_left; · intro w0 hS; obtain ⟨hzz, hW⟩ := hS; go_simp; try with_reducible rfl
        try simp only [Act.put, List.setIfInBounds_toArray, List.set_cons_zero, List.set_cons_succ]
        refine Go_.take (i := 6) (oi := ⟨some 38, Op.move (Operand.tmp 0), 9, _, _, none⟩) (v := ?_) rfl (by kernel_rfl) (by kernel_rfl) (by kernel_rfl) rfl (fun _ _ _ h => h) (Or.inl ⟨by rfl, ?_⟩) ?_
        rotate_left; · intro w0 _; go_simp; try with_reducible rfl
        try simp only [Act.put, List.setIfInBounds_toArray, List.set_cons_zero, List.set_cons_succ]
        refine Go_.take (i := 8) (oi := ⟨some 40, Op.move (Operand.tmp 1), 9, _, _, none⟩) (v := ?_) rfl (by kernel_rfl) (by kernel_rfl) (by kernel_rfl) rfl (fun _ _ _ h => h) (Or.inl ⟨by rfl, ?_⟩) ?_
        rotate_left; · intro w0 _; go_simp; try with_reducible rfl
        try simp only [Act.put, List.setIfInBounds_toArray, List.set_cons_zero, List.set_cons_succ]
        refine Go_.take (i := 9) (oi := ⟨some 41, Op.move (Operand.tmp 9), 3, _, _, none⟩) (v := ?_) rfl (by kernel_rfl) (by kernel_rfl) (by kernel_rfl) rfl (fun _ _ _ h => h) (Or.inl ⟨by rfl, ?_⟩) ?_
        rotate_left; · intro w0 _; go_simp; try with_reducible rfl
        try simp only [Act.put, List.setIfInBounds_toArray, List.set_cons_zero, List.set_cons_succ]
        refine Go_.take (i := 10) (oi := ⟨some 42, Op.index 9 (Operand.tmp 40) (Operand.tmp 41), 5, _, _, none⟩) (v := ?_) rfl (by kernel_rfl) (by kernel_rfl) (by kernel_rfl) rfl (fun _ _ _ h => h) (Or.inl ⟨by rfl, ?_⟩) ?_
        rotate_left; · intro w0 _; go_simp; try with_reducible rfl
        try simp only [Act.put, List.setIfInBounds_toArray, List.set_cons_zero, List.set_cons_succ]
        refine Go_.take (i := 11) (oi := ⟨some 43, Op.convert 5 22 (Operand.tmp 42), 22, _, _, none⟩) (v := ?_) rfl (by kernel_rfl) (by kernel_rfl) (by kernel_rfl) rfl (fun _ _ _ h => h) (Or.inl ⟨by rfl, ?_⟩) ?_
        rotate_left; · intro w0 hS; obtain ⟨hzz, hW⟩ := hS; go_simp; try with_reducible rfl
        try simp only [Act.put, List.setIfInBounds_toArray, List.set_cons_zero, List.set_cons_succ]
        refine Go_.take (i := 12) (oi := ⟨some 44, Op.move (Operand.tmp 1), 9, _, _, none⟩) (v := ?_) rfl (by kernel_rfl) (by kernel_rfl) (by kernel_rfl) rfl (fun _ _ _ h => h) (Or.inl ⟨by rfl, ?_⟩) ?_
        rotate_left; · intro w0 _; go_simp; try with_reducible rfl
        try simp only [Act.put, List.setIfInBounds_toArray, List.set_cons_zero, List.set_cons_succ]
        refine Go_.take (i := 13) (oi := ⟨some 45, Op.move (Operand.tmp 9), 3, _, _, none⟩) (v := ?_) rfl (by kernel_rfl) (by kernel_rfl) (by kernel_rfl) rfl (fun _ _ _ h => h) (Or.inl ⟨by rfl, ?_⟩) ?_
        rotate_left; · intro w0 _; go_simp; try with_reducible rfl
        try simp only [Act.put, List.setIfInBounds_toArray, List.set_cons_zero, List.set_cons_succ]
        refine Go_.take (i := 14) (oi := ⟨some 46, Op.binOp BinOp.add 3 (Operand.tmp 45) (Operand.const (Value.int IntKind.i64 1)) 3, 3, _, _, none⟩) (v := ?_) rfl (by kernel_rfl) (by kernel_rfl) (by kernel_rfl) rfl (fun _ _ _ h => h) (Or.inl ⟨by rfl, ?_⟩) ?_
        rotate_left; · intro w0 _; go_simp; try with_reducible rfl
        try simp only [Act.put, List.setIfInBounds_toArray, List.set_cons_zero, List.set_cons_succ]
        refine Go_.take (i := 15) (oi := ⟨some 47, Op.binOp BinOp.rem 3 (Operand.tmp 46) (Operand.const (Value.int IntKind.i64 8)) 3, 3, _, _, none⟩) (v := ?_) rfl (by kernel_rfl) (by kernel_rfl) (by kernel_rfl) rfl (fun _ _ _ h => h) (Or.inl ⟨by rfl, ?_⟩) ?_
        rotate_left; · intro w0 _; go_simp; try with_reducible rfl
        try simp only [Act.put, List.setIfInBounds_toArray, List.set_cons_zero, List.set_cons_succ]
        refine Go_.take (i := 16) (oi := ⟨some 48, Op.index 9 (Operand.tmp 44) (Operand.tmp 47), 5, _, _, none⟩) (v := ?_) rfl (by kernel_rfl) (by kernel_rfl) (by kernel_rfl) rfl (fun _ _ _ h => h) (Or.inl ⟨by rfl, ?_⟩) ?_
        rotate_left; · intro w0 _; go_simp; try with_reducible rfl
        try simp only [Act.put, List.setIfInBounds_toArray, List.set_cons_zero, List.set_cons_succ]
        refine Go_.take (i := 17) (oi := ⟨some 49, Op.convert 5 22 (Operand.tmp 48), 22, _, _, none⟩) (v := ?_) rfl (by kernel_rfl) (by kernel_rfl) (by kernel_rfl) rfl (fun _ _ _ h => h) (Or.inl ⟨by rfl, ?_⟩) ?_
        rotate_left; · intro w0 hS; obtain ⟨hzz, hW⟩ := hS; go_simp; try with_reducible rfl
        try simp only [Act.put, List.setIfInBounds_toArray, List.set_cons_zero, List.set_cons_succ]
        refine Go_.take (i := 18) (oi := ⟨some 50, Op.binOp BinOp.shl 22 (Operand.tmp 49) (Operand.const (Value.int IntKind.u64 8)) 35, 22, _, _, none⟩) (v := ?_) rfl (by kernel_rfl) (by kernel_rfl) (by kernel_rfl) rfl (fun _ _ _ h => h) (Or.inl ⟨by rfl, ?_⟩) ?_
        rotate_left; · intro w0 _; go_simp; try with_reducible rfl
        try simp only [Act.put, List.setIfInBounds_toArray, List.set_cons_zero, List.set_cons_succ]
        refine Go_.take (i := 19) (oi := ⟨some 51, Op.binOp BinOp.or 22 (Operand.tmp 43) (Operand.tmp 50) 22, 22, _, _, none⟩) (v := ?_) rfl (by kernel_rfl) (by kernel_rfl) (by kernel_rfl) rfl (fun _ _ _ h => h) (Or.inl ⟨by rfl, ?_⟩) ?_
        rotate_left; · intro w0 _; go_simp; try with_reducible rfl
        try simp only [Act.put, List.setIfInBounds_toArray, List.set_cons_zero, List.set_cons_succ]
        refine Go_.step (i := 7) (o := ⟨some 39, Op.call { callee := Callee.value (Operand.func 27), args := #[Operand.tmp 35, Operand.tmp 37, Operand.tmp 38], argTypes := #[22, 22, 9] }, 22, _, _, none⟩) (by kernel_rfl) rfl (fun K hT hK => ?_)
        rw [if_pos (by rfl)]
        go_simp
        refine (rkey_sum (BitVec.ofNat 32 (3 + 2)) (BitVec.ofNat 32 3) z l hz9 _ _ rfl rfl _ hl).mono ?_
        rintro e w8 ⟨rfl, rfl⟩
        refine hK.out _ _ (Till.both hT.1 (hT.2 rfl)) ?_
        clear hT hK K
        refine Go_.take (i := 20) (oi := ⟨some 52, Op.binOp BinOp.xor 22 (Operand.tmp 39) (Operand.tmp 51) 22, 22, _, _, none⟩) (v := ?_) rfl (by kernel_rfl) (by kernel_rfl) (by kernel_rfl) rfl (fun _ _ _ h => h) (Or.inl ⟨by rfl, ?_⟩) ?_
        rotate_left; · intro w0 _; go_simp; try with_reducible rfl
        try simp only [Act.put, List.setIfInBounds_toArray, List.set_cons_zero, List.set_cons_succ]
        refine Go_.take (i := 21) (oi := ⟨some 53, Op.indexAddr 32 (Operand.tmp 8) (Operand.tmp 32), 0, _, _, none⟩) (v := ?_) rfl (by kernel_rfl) (by kernel_rfl) (by kernel_rfl) rfl (fun _ _ _ h => h) (Or.inl ⟨by rfl, ?_⟩) ?_
        rotate_left; · intro w0 _; go_simp; try with_reducible rfl
        try simp only [Act.put, List.setIfInBounds_toArray, List.set_cons_zero, List.set_cons_succ]
        refine Go_.step (i := 22) (o := ⟨none, Op.store 22 (Operand.tmp 53) (Operand.tmp 52), 0, _, _, none⟩) (by kernel_rfl) rfl (fun K hT hK => ?_)
        rw [if_pos (by rfl)]
        have h8 := (hT.2 rfl).eight
        have hf := (hT.2 rfl).eightFree
        have hk2 := (hT.2 rfl).set 3 (.int .u32 (W (z ^^^ sw s.s3 s.s4)))
        go_simp
        have hA2 := And.intro (hT.1.1.far (p := ⟨w.heap.size + 1, 3, none⟩) (by show w.heap.size ≠ w.heap.size + 1; omega) (.int .u32 (W (z ^^^ sw s.s3 s.s4)))) (hT.1.2.setCell (p := ⟨w.heap.size + 1, 3, none⟩) (by show w.heap.size ≤ w.heap.size + 1; omega) (.int .u32 (W (z ^^^ sw s.s3 s.s4))))
        refine hK.out _ _ (Till.late rfl hA2) ?_
        clear hT hK K
        refine Go_.done (by kernel_rfl) ?_
        have HK := Lib.hid (And.intro hk2 hA2)
        clear hk2 hA2 HS hx0 hx1
        go_wp2_with fail
        go_round
        case rel => exact ⟨4, by omega, by go_num, HK.out.2.1, (by have e : (kwK l s 3).vals.set 3 (.int .u32 (W (z ^^^ sw s.s3 s.s4))) = (kwK l s 4).vals := (by rw [hz9.out]; rfl) ; exact e ▸ HK.out.1), HK.out.2.2⟩
        case measure => simp [intOf]
      · obtain ⟨z, hz9⟩ : ∃ z, Hid (z = sumW (BitVec.ofNat 32 (4 + 2)) (BitVec.ofNat 32 4) l) := ⟨_, rfl⟩
        have HS := Lib.hid (And.intro hz.drew (And.intro hb.drew hk.drew))
        clear hz hb hk
        have hi1 : (IntKind.i64.wrap 5).tmod 8 = 5 := by decide
        have hu0 := u32_byte s.s4
        have hu1 := u32_byte s.s5
        have hor := bits_or_sw2 s.s4 s.s5
        have hx0 : ∀ w, (Instr.index 9 (.string (mkStr [s.s0, s.s1, s.s2, s.s3, s.s4, s.s5, s.s6, s.s7])) (.int .i64 4)).run Try.prog w = .ok (.int .u8 (s.s4.toNat : Int)) w := salt_idx s 4 s.s4 (by omega) rfl
        have hx1 : ∀ w, (Instr.index 9 (.string (mkStr [s.s0, s.s1, s.s2, s.s3, s.s4, s.s5, s.s6, s.s7])) (.int .i64 5)).run Try.prog w = .ok (.int .u8 (s.s5.toNat : Int)) w := salt_idx s 5 s.s5 (by omega) rfl
        refine wp_region_till 22 (fun w' => Holds w' w.heap.size 32 [.int .u32 0, .int .u32 0, .int .u32 0, .int .u32 0, .int .u32 0, .int .u32 0, .int .u32 0, .int .u32 0] ∧ Below w.heap.size w w') (fun w' => Holds w' (w.heap.size + 1) 32 (kwK l s 4).vals) (by kernel_rfl) (⟨HS.out.1, HS.out.2.1⟩) (HS.out.2.2) ?_
        show Go_ _ _ _ _ _ _ _ _ _ _ (World.drew _)
        refine Go_.take (i := 0) (oi := ⟨some 32, Op.move (Operand.tmp 9), 3, _, _, none⟩) (v := ?_) rfl (by kernel_rfl) (by kernel_rfl) (by kernel_rfl) rfl (fun _ _ _ h => h) (Or.inl ⟨by rfl, ?_⟩) ?_
        rotate_left; · intro w0 _; go_simp; try with_reducible rfl
        try simp only [Act.put, List.setIfInBounds_toArray, List.set_cons_zero, List.set_cons_succ]
        refine Go_.take (i := 1) (oi := ⟨some 33, Op.move (Operand.tmp 9), 3, _, _, none⟩) (v := ?_) rfl (by kernel_rfl) (by kernel_rfl) (by kernel_rfl) rfl (fun _ _ _ h => h) (Or.inl ⟨by rfl, ?_⟩) ?_
        rotate_left; · intro w0 _; go_simp; try with_reducible rfl
        try simp only [Act.put, List.setIfInBounds_toArray, List.set_cons_zero, List.set_cons_succ]
        refine Go_.take (i := 2) (oi := ⟨some 34, Op.convert 3 22 (Operand.tmp 33), 22, _, _, none⟩) (v := ?_) rfl (by kernel_rfl) (by kernel_rfl) (by kernel_rfl) rfl (fun _ _ _ h => h) (Or.inl ⟨by rfl, ?_⟩) ?_
        rotate_left; · intro w0 hS; obtain ⟨hzz, hW⟩ := hS; go_simp; try with_reducible rfl
        try simp only [Act.put, List.setIfInBounds_toArray, List.set_cons_zero, List.set_cons_succ]
        refine Go_.take (i := 3) (oi := ⟨some 35, Op.binOp BinOp.add 22 (Operand.tmp 34) (Operand.const (Value.int IntKind.u32 2)) 22, 22, _, _, none⟩) (v := ?_) rfl (by kernel_rfl) (by kernel_rfl) (by kernel_rfl) rfl (fun _ _ _ h => h) (Or.inl ⟨by rfl, ?_⟩) ?_
        rotate_left; · intro w0 _; go_simp; try with_reducible rfl
        try simp only [Act.put, List.setIfInBounds_toArray, List.set_cons_zero, List.set_cons_succ]
        refine Go_.take (i := 4) (oi := ⟨some 36, Op.move (Operand.tmp 9), 3, _, _, none⟩) (v := ?_) rfl (by kernel_rfl) (by kernel_rfl) (by kernel_rfl) rfl (fun _ _ _ h => h) (Or.inl ⟨by rfl, ?_⟩) ?_
        rotate_left; · intro w0 _; go_simp; try with_reducible rfl
        try simp only [Act.put, List.setIfInBounds_toArray, List.set_cons_zero, List.set_cons_succ]
        refine Go_.take (i := 5) (oi := ⟨some 37, Op.convert 3 22 (Operand.tmp 36), 22, _, _, none⟩) (v := ?_) rfl (by kernel_rfl) (by kernel_rfl) (by kernel_rfl) rfl (fun _ _ _ h => h) (Or.inl ⟨by rfl, ?_⟩) ?_
        rotate_left; · intro w0 hS; obtain ⟨hzz, hW⟩ := hS; go_simp; try with_reducible rfl
        try simp only [Act.put, List.setIfInBounds_toArray, List.set_cons_zero, List.set_cons_succ]
        refine Go_.take (i := 6) (oi := ⟨some 38, Op.move (Operand.tmp 0), 9, _, _, none⟩) (v := ?_) rfl (by kernel_rfl) (by kernel_rfl) (by kernel_rfl) rfl (fun _ _ _ h => h) (Or.inl ⟨by rfl, ?_⟩) ?_
        rotate_left; · intro w0 _; go_simp; try with_reducible rfl
        try simp only [Act.put, List.setIfInBounds_toArray, List.set_cons_zero, List.set_cons_succ]
        refine Go_.take (i := 8) (oi := ⟨some 40, Op.move (Operand.tmp 1), 9, _, _, none⟩) (v := ?_) rfl (by kernel_rfl) (by kernel_rfl) (by kernel_rfl) rfl (fun _ _ _ h => h) (Or.inl ⟨by rfl, ?_⟩) ?_
        rotate_left; · intro w0 _; go_simp; try with_reducible rfl
        try simp only [Act.put, List.setIfInBounds_toArray, List.set_cons_zero, List.set_cons_succ]
        refine Go_.take (i := 9) (oi := ⟨some 41, Op.move (Operand.tmp 9), 3, _, _, none⟩) (v := ?_) rfl (by kernel_rfl) (by kernel_rfl) (by kernel_rfl) rfl (fun _ _ _ h => h) (Or.inl ⟨by rfl, ?_⟩) ?_
        rotate_left; · intro w0 _; go_simp; try with_reducible rfl
        try simp only [Act.put, List.setIfInBounds_toArray, List.set_cons_zero, List.set_cons_succ]
        refine Go_.take (i := 10) (oi := ⟨some 42, Op.index 9 (Operand.tmp 40) (Operand.tmp 41), 5, _, _, none⟩) (v := ?_) rfl (by kernel_rfl) (by kernel_rfl) (by kernel_rfl) rfl (fun _ _ _ h => h) (Or.inl ⟨by rfl, ?_⟩) ?_
        rotate_left; · intro w0 _; go_simp; try with_reducible rfl
        try simp only [Act.put, List.setIfInBounds_toArray, List.set_cons_zero, List.set_cons_succ]
        refine Go_.take (i := 11) (oi := ⟨some 43, Op.convert 5 22 (Operand.tmp 42), 22, _, _, none⟩) (v := ?_) rfl (by kernel_rfl) (by kernel_rfl) (by kernel_rfl) rfl (fun _ _ _ h => h) (Or.inl ⟨by rfl, ?_⟩) ?_
        rotate_left; · intro w0 hS; obtain ⟨hzz, hW⟩ := hS; go_simp; try with_reducible rfl
        try simp only [Act.put, List.setIfInBounds_toArray, List.set_cons_zero, List.set_cons_succ]
        refine Go_.take (i := 12) (oi := ⟨some 44, Op.move (Operand.tmp 1), 9, _, _, none⟩) (v := ?_) rfl (by kernel_rfl) (by kernel_rfl) (by kernel_rfl) rfl (fun _ _ _ h => h) (Or.inl ⟨by rfl, ?_⟩) ?_
        rotate_left; · intro w0 _; go_simp; try with_reducible rfl
        try simp only [Act.put, List.setIfInBounds_toArray, List.set_cons_zero, List.set_cons_succ]
        refine Go_.take (i := 13) (oi := ⟨some 45, Op.move (Operand.tmp 9), 3, _, _, none⟩) (v := ?_) rfl (by kernel_rfl) (by kernel_rfl) (by kernel_rfl) rfl (fun _ _ _ h => h) (Or.inl ⟨by rfl, ?_⟩) ?_
        rotate_left; · intro w0 _; go_simp; try with_reducible rfl
        try simp only [Act.put, List.setIfInBounds_toArray, List.set_cons_zero, List.set_cons_succ]
        refine Go_.take (i := 14) (oi := ⟨some 46, Op.binOp BinOp.add 3 (Operand.tmp 45) (Operand.const (Value.int IntKind.i64 1)) 3, 3, _, _, none⟩) (v := ?_) rfl (by kernel_rfl) (by kernel_rfl) (by kernel_rfl) rfl (fun _ _ _ h => h) (Or.inl ⟨by rfl, ?_⟩) ?_
        rotate_left; · intro w0 _; go_simp; try with_reducible rfl
        try simp only [Act.put, List.setIfInBounds_toArray, List.set_cons_zero, List.set_cons_succ]
        refine Go_.take (i := 15) (oi := ⟨some 47, Op.binOp BinOp.rem 3 (Operand.tmp 46) (Operand.const (Value.int IntKind.i64 8)) 3, 3, _, _, none⟩) (v := ?_) rfl (by kernel_rfl) (by kernel_rfl) (by kernel_rfl) rfl (fun _ _ _ h => h) (Or.inl ⟨by rfl, ?_⟩) ?_
        rotate_left; · intro w0 _; go_simp; try with_reducible rfl
        try simp only [Act.put, List.setIfInBounds_toArray, List.set_cons_zero, List.set_cons_succ]
        refine Go_.take (i := 16) (oi := ⟨some 48, Op.index 9 (Operand.tmp 44) (Operand.tmp 47), 5, _, _, none⟩) (v := ?_) rfl (by kernel_rfl) (by kernel_rfl) (by kernel_rfl) rfl (fun _ _ _ h => h) (Or.inl ⟨by rfl, ?_⟩) ?_
        rotate_left; · intro w0 _; go_simp; try with_reducible rfl
        try simp only [Act.put, List.setIfInBounds_toArray, List.set_cons_zero, List.set_cons_succ]
        refine Go_.take (i := 17) (oi := ⟨some 49, Op.convert 5 22 (Operand.tmp 48), 22, _, _, none⟩) (v := ?_) rfl (by kernel_rfl) (by kernel_rfl) (by kernel_rfl) rfl (fun _ _ _ h => h) (Or.inl ⟨by rfl, ?_⟩) ?_
        rotate_left; · intro w0 hS; obtain ⟨hzz, hW⟩ := hS; go_simp; try with_reducible rfl
        try simp only [Act.put, List.setIfInBounds_toArray, List.set_cons_zero, List.set_cons_succ]
        refine Go_.take (i := 18) (oi := ⟨some 50, Op.binOp BinOp.shl 22 (Operand.tmp 49) (Operand.const (Value.int IntKind.u64 8)) 35, 22, _, _, none⟩) (v := ?_) rfl (by kernel_rfl) (by kernel_rfl) (by kernel_rfl) rfl (fun _ _ _ h => h) (Or.inl ⟨by rfl, ?_⟩) ?_
        rotate_left; · intro w0 _; go_simp; try with_reducible rfl
        try simp only [Act.put, List.setIfInBounds_toArray, List.set_cons_zero, List.set_cons_succ]
        refine Go_.take (i := 19) (oi := ⟨some 51, Op.binOp BinOp.or 22 (Operand.tmp 43) (Operand.tmp 50) 22, 22, _, _, none⟩) (v := ?_) rfl (by kernel_rfl) (by kernel_rfl) (by kernel_rfl) rfl (fun _ _ _ h => h) (Or.inl ⟨by rfl, ?_⟩) ?_
        rotate_left; · intro w0 _; go_simp; try with_reducible rfl
        try simp only [Act.put, List.setIfInBounds_toArray, List.set_cons_zero, List.set_cons_succ]
        refine Go_.step (i := 7) (o := ⟨some 39, Op.call { callee := Callee.value (Operand.func 27), args := #[Operand.tmp 35, Operand.tmp 37, Operand.tmp 38], argTypes := #[22, 22, 9] }, 22, _, _, none⟩) (by kernel_rfl) rfl (fun K hT hK => ?_)
        rw [if_pos (by rfl)]
        go_simp
        refine (rkey_sum (BitVec.ofNat 32 (4 + 2)) (BitVec.ofNat 32 4) z l hz9 _ _ rfl rfl _ hl).mono ?_
        rintro e w8 ⟨rfl, rfl⟩
        refine hK.out _ _ (Till.both hT.1 (hT.2 rfl)) ?_
        clear hT hK K
        refine Go_.take (i := 20) (oi := ⟨some 52, Op.binOp BinOp.xor 22 (Operand.tmp 39) (Operand.tmp 51) 22, 22, _, _, none⟩) (v := ?_) rfl (by kernel_rfl) (by kernel_rfl) (by kernel_rfl) rfl (fun _ _ _ h => h) (Or.inl ⟨by rfl, ?_⟩) ?_
        rotate_left; · intro w0 _; go_simp; try with_reducible rfl
        try simp only [Act.put, List.setIfInBounds_toArray, List.set_cons_zero, List.set_cons_succ]
        refine Go_.take (i := 21) (oi := ⟨some 53, Op.indexAddr 32 (Operand.tmp 8) (Operand.tmp 32), 0, _, _, none⟩) (v := ?_) rfl (by kernel_rfl) (by kernel_rfl) (by kernel_rfl) rfl (fun _ _ _ h => h) (Or.inl ⟨by rfl, ?_⟩) ?_
        rotate_left; · intro w0 _; go_simp; try with_reducible rfl
        try simp only [Act.put, List.setIfInBounds_toArray, List.set_cons_zero, List.set_cons_succ]
        refine Go_.step (i := 22) (o := ⟨none, Op.store 22 (Operand.tmp 53) (Operand.tmp 52), 0, _, _, none⟩) (by kernel_rfl) rfl (fun K hT hK => ?_)
        rw [if_pos (by rfl)]
        have h8 := (hT.2 rfl).eight
        have hf := (hT.2 rfl).eightFree
        have hk2 := (hT.2 rfl).set 4 (.int .u32 (W (z ^^^ sw s.s4 s.s5)))
        go_simp
        have hA2 := And.intro (hT.1.1.far (p := ⟨w.heap.size + 1, 4, none⟩) (by show w.heap.size ≠ w.heap.size + 1; omega) (.int .u32 (W (z ^^^ sw s.s4 s.s5)))) (hT.1.2.setCell (p := ⟨w.heap.size + 1, 4, none⟩) (by show w.heap.size ≤ w.heap.size + 1; omega) (.int .u32 (W (z ^^^ sw s.s4 s.s5))))
        refine hK.out _ _ (Till.late rfl hA2) ?_
        clear hT hK K
        refine Go_.done (by kernel_rfl) ?_
        have HK := Lib.hid (And.intro hk2 hA2)
        clear hk2 hA2 HS hx0 hx1
        go_wp2_with fail
        go_round
        case rel => exact ⟨5, by omega, by go_num, HK.out.2.1, (by have e : (kwK l s 4).vals.set 4 (.int .u32 (W (z ^^^ sw s.s4 s.s5))) = (kwK l s 5).vals := (by rw [hz9.out]; rfl) ; exact e ▸ HK.out.1), HK.out.2.2⟩
        case measure => simp [intOf]
      · obtain ⟨z, hz9⟩ : ∃ z, Hid (z = sumW (BitVec.ofNat 32 (5 + 2)) (BitVec.ofNat 32 5) l) := ⟨_, rfl⟩
        have HS := Lib.hid (And.intro hz.drew (And.intro hb.drew hk.drew))
        clear hz hb hk
        have hi1 : (IntKind.i64.wrap 6).tmod 8 = 6 := by decide
        have hu0 := u32_byte s.s5
        have hu1 := u32_byte s.s6
        have hor := bits_or_sw2 s.s5 s.s6
        have hx0 : ∀ w, (Instr.index 9 (.string (mkStr [s.s0, s.s1, s.s2, s.s3, s.s4, s.s5, s.s6, s.s7])) (.int .i64 5)).run Try.prog w = .ok (.int .u8 (s.s5.toNat : Int)) w := salt_idx s 5 s.s5 (by omega) rfl
        have hx1 : ∀ w, (Instr.index 9 (.string (mkStr [s.s0, s.s1, s.s2, s.s3, s.s4, s.s5, s.s6, s.s7])) (.int .i64 6)).run Try.prog w = .ok (.int .u8 (s.s6.toNat : Int)) w := salt_idx s 6 s.s6 (by omega) rfl
        refine wp_region_till 22 (fun w' => Holds w' w.heap.size 32 [.int .u32 0, .int .u32 0, .int .u32 0, .int .u32 0, .int .u32 0, .int .u32 0, .int .u32 0, .int .u32 0] ∧ Below w.heap.size w w') (fun w' => Holds w' (w.heap.size + 1) 32 (kwK l s 5).vals) (by kernel_rfl) (⟨HS.out.1, HS.out.2.1⟩) (HS.out.2.2) ?_
        show Go_ _ _ _ _ _ _ _ _ _ _ (World.drew _)
        refine Go_.take (i := 0) (oi := ⟨some 32, Op.move (Operand.tmp 9), 3, _, _, none⟩) (v := ?_) rfl (by kernel_rfl) (by kernel_rfl) (by kernel_rfl) rfl (fun _ _ _ h => h) (Or.inl ⟨by rfl, ?_⟩) ?_
        rotate_left; · intro w0 _; go_simp; try with_reducible rfl
        try simp only [Act.put, List.setIfInBounds_toArray, List.set_cons_zero, List.set_cons_succ]
        refine Go_.take (i := 1) (oi := ⟨some 33, Op.move (Operand.tmp 9), 3, _, _, none⟩) (v := ?_) rfl (by kernel_rfl) (by kernel_rfl) (by kernel_rfl) rfl (fun _ _ _ h => h) (Or.inl ⟨by rfl, ?_⟩) ?_
        rotate_left; · intro w0 _; go_simp; try with_reducible rfl
        try simp only [Act.put, List.setIfInBounds_toArray, List.set_cons_zero, List.set_cons_succ]
        refine Go_.take (i := 2) (oi := ⟨some 34, Op.convert 3 22 (Operand.tmp 33), 22, _, _, none⟩) (v := ?_) rfl (by kernel_rfl) (by kernel_rfl) (by kernel_rfl) rfl (fun _ _ _ h => h) (Or.inl ⟨by rfl, ?_⟩) ?_
        rotate_left; · intro w0 hS; obtain ⟨hzz, hW⟩ := hS; go_simp; try with_reducible rfl
        try simp only [Act.put, List.setIfInBounds_toArray, List.set_cons_zero, List.set_cons_succ]
        refine Go_.take (i := 3) (oi := ⟨some 35, Op.binOp BinOp.add 22 (Operand.tmp 34) (Operand.const (Value.int IntKind.u32 2)) 22, 22, _, _, none⟩) (v := ?_) rfl (by kernel_rfl) (by kernel_rfl) (by kernel_rfl) rfl (fun _ _ _ h => h) (Or.inl ⟨by rfl, ?_⟩) ?_
        rotate_left; · intro w0 _; go_simp; try with_reducible rfl
        try simp only [Act.put, List.setIfInBounds_toArray, List.set_cons_zero, List.set_cons_succ]
        refine Go_.take (i := 4) (oi := ⟨some 36, Op.move (Operand.tmp 9), 3, _, _, none⟩) (v := ?_) rfl (by kernel_rfl) (by kernel_rfl) (by kernel_rfl) rfl (fun _ _ _ h => h) (Or.inl ⟨by rfl, ?_⟩) ?_
        rotate_left; · intro w0 _; go_simp; try with_reducible rfl
        try simp only [Act.put, List.setIfInBounds_toArray, List.set_cons_zero, List.set_cons_succ]
        refine Go_.take (i := 5) (oi := ⟨some 37, Op.convert 3 22 (Operand.tmp 36), 22, _, _, none⟩) (v := ?_) rfl (by kernel_rfl) (by kernel_rfl) (by kernel_rfl) rfl (fun _ _ _ h => h) (Or.inl ⟨by rfl, ?_⟩) ?_
        rotate_left; · intro w0 hS; obtain ⟨hzz, hW⟩ := hS; go_simp; try with_reducible rfl
        try simp only [Act.put, List.setIfInBounds_toArray, List.set_cons_zero, List.set_cons_succ]
        refine Go_.take (i := 6) (oi := ⟨some 38, Op.move (Operand.tmp 0), 9, _, _, none⟩) (v := ?_) rfl (by kernel_rfl) (by kernel_rfl) (by kernel_rfl) rfl (fun _ _ _ h => h) (Or.inl ⟨by rfl, ?_⟩) ?_
        rotate_left; · intro w0 _; go_simp; try with_reducible rfl
        try simp only [Act.put, List.setIfInBounds_toArray, List.set_cons_zero, List.set_cons_succ]
        refine Go_.take (i := 8) (oi := ⟨some 40, Op.move (Operand.tmp 1), 9, _, _, none⟩) (v := ?_) rfl (by kernel_rfl) (by kernel_rfl) (by kernel_rfl) rfl (fun _ _ _ h => h) (Or.inl ⟨by rfl, ?_⟩) ?_
        rotate_left; · intro w0 _; go_simp; try with_reducible rfl
        try simp only [Act.put, List.setIfInBounds_toArray, List.set_cons_zero, List.set_cons_succ]
        refine Go_.take (i := 9) (oi := ⟨some 41, Op.move (Operand.tmp 9), 3, _, _, none⟩) (v := ?_) rfl (by kernel_rfl) (by kernel_rfl) (by kernel_rfl) rfl (fun _ _ _ h => h) (Or.inl ⟨by rfl, ?_⟩) ?_
        rotate_left; · intro w0 _; go_simp; try with_reducible rfl
        try simp only [Act.put, List.setIfInBounds_toArray, List.set_cons_zero, List.set_cons_succ]
        refine Go_.take (i := 10) (oi := ⟨some 42, Op.index 9 (Operand.tmp 40) (Operand.tmp 41), 5, _, _, none⟩) (v := ?_) rfl (by kernel_rfl) (by kernel_rfl) (by kernel_rfl) rfl (fun _ _ _ h => h) (Or.inl ⟨by rfl, ?_⟩) ?_
        rotate_left; · intro w0 _; go_simp; try with_reducible rfl
        try simp only [Act.put, List.setIfInBounds_toArray, List.set_cons_zero, List.set_cons_succ]
        refine Go_.take (i := 11) (oi := ⟨some 43, Op.convert 5 22 (Operand.tmp 42), 22, _, _, none⟩) (v := ?_) rfl (by kernel_rfl) (by kernel_rfl) (by kernel_rfl) rfl (fun _ _ _ h => h) (Or.inl ⟨by rfl, ?_⟩) ?_
        rotate_left; · intro w0 hS; obtain ⟨hzz, hW⟩ := hS; go_simp; try with_reducible rfl
        try simp only [Act.put, List.setIfInBounds_toArray, List.set_cons_zero, List.set_cons_succ]
        refine Go_.take (i := 12) (oi := ⟨some 44, Op.move (Operand.tmp 1), 9, _, _, none⟩) (v := ?_) rfl (by kernel_rfl) (by kernel_rfl) (by kernel_rfl) rfl (fun _ _ _ h => h) (Or.inl ⟨by rfl, ?_⟩) ?_
        rotate_left; · intro w0 _; go_simp; try with_reducible rfl
        try simp only [Act.put, List.setIfInBounds_toArray, List.set_cons_zero, List.set_cons_succ]
        refine Go_.take (i := 13) (oi := ⟨some 45, Op.move (Operand.tmp 9), 3, _, _, none⟩) (v := ?_) rfl (by kernel_rfl) (by kernel_rfl) (by kernel_rfl) rfl (fun _ _ _ h => h) (Or.inl ⟨by rfl, ?_⟩) ?_
        rotate_left; · intro w0 _; go_simp; try with_reducible rfl
        try simp only [Act.put, List.setIfInBounds_toArray, List.set_cons_zero, List.set_cons_succ]
        refine Go_.take (i := 14) (oi := ⟨some 46, Op.binOp BinOp.add 3 (Operand.tmp 45) (Operand.const (Value.int IntKind.i64 1)) 3, 3, _, _, none⟩) (v := ?_) rfl (by kernel_rfl) (by kernel_rfl) (by kernel_rfl) rfl (fun _ _ _ h => h) (Or.inl ⟨by rfl, ?_⟩) ?_
        rotate_left; · intro w0 _; go_simp; try with_reducible rfl
        try simp only [Act.put, List.setIfInBounds_toArray, List.set_cons_zero, List.set_cons_succ]
        refine Go_.take (i := 15) (oi := ⟨some 47, Op.binOp BinOp.rem 3 (Operand.tmp 46) (Operand.const (Value.int IntKind.i64 8)) 3, 3, _, _, none⟩) (v := ?_) rfl (by kernel_rfl) (by kernel_rfl) (by kernel_rfl) rfl (fun _ _ _ h => h) (Or.inl ⟨by rfl, ?_⟩) ?_
        rotate_left; · intro w0 _; go_simp; try with_reducible rfl
        try simp only [Act.put, List.setIfInBounds_toArray, List.set_cons_zero, List.set_cons_succ]
        refine Go_.take (i := 16) (oi := ⟨some 48, Op.index 9 (Operand.tmp 44) (Operand.tmp 47), 5, _, _, none⟩) (v := ?_) rfl (by kernel_rfl) (by kernel_rfl) (by kernel_rfl) rfl (fun _ _ _ h => h) (Or.inl ⟨by rfl, ?_⟩) ?_
        rotate_left; · intro w0 _; go_simp; try with_reducible rfl
        try simp only [Act.put, List.setIfInBounds_toArray, List.set_cons_zero, List.set_cons_succ]
        refine Go_.take (i := 17) (oi := ⟨some 49, Op.convert 5 22 (Operand.tmp 48), 22, _, _, none⟩) (v := ?_) rfl (by kernel_rfl) (by kernel_rfl) (by kernel_rfl) rfl (fun _ _ _ h => h) (Or.inl ⟨by rfl, ?_⟩) ?_
        rotate_left; · intro w0 hS; obtain ⟨hzz, hW⟩ := hS; go_simp; try with_reducible rfl
        try simp only [Act.put, List.setIfInBounds_toArray, List.set_cons_zero, List.set_cons_succ]
        refine Go_.take (i := 18) (oi := ⟨some 50, Op.binOp BinOp.shl 22 (Operand.tmp 49) (Operand.const (Value.int IntKind.u64 8)) 35, 22, _, _, none⟩) (v := ?_) rfl (by kernel_rfl) (by kernel_rfl) (by kernel_rfl) rfl (fun _ _ _ h => h) (Or.inl ⟨by rfl, ?_⟩) ?_
        rotate_left; · intro w0 _; go_simp; try with_reducible rfl
        try simp only [Act.put, List.setIfInBounds_toArray, List.set_cons_zero, List.set_cons_succ]
        refine Go_.take (i := 19) (oi := ⟨some 51, Op.binOp BinOp.or 22 (Operand.tmp 43) (Operand.tmp 50) 22, 22, _, _, none⟩) (v := ?_) rfl (by kernel_rfl) (by kernel_rfl) (by kernel_rfl) rfl (fun _ _ _ h => h) (Or.inl ⟨by rfl, ?_⟩) ?_
        rotate_left; · intro w0 _; go_simp; try with_reducible rfl
        try simp only [Act.put, List.setIfInBounds_toArray, List.set_cons_zero, List.set_cons_succ]
        refine Go_.step (i := 7) (o := ⟨some 39, Op.call { callee := Callee.value (Operand.func 27), args := #[Operand.tmp 35, Operand.tmp 37, Operand.tmp 38], argTypes := #[22, 22, 9] }, 22, _, _, none⟩) (by kernel_rfl) rfl (fun K hT hK => ?_)
        rw [if_pos (by rfl)]
        go_simp
        refine (rkey_sum (BitVec.ofNat 32 (5 + 2)) (BitVec.ofNat 32 5) z l hz9 _ _ rfl rfl _ hl).mono ?_
        rintro e w8 ⟨rfl, rfl⟩
        refine hK.out _ _ (Till.both hT.1 (hT.2 rfl)) ?_
        clear hT hK K
        refine Go_.take (i := 20) (oi := ⟨some 52, Op.binOp BinOp.xor 22 (Operand.tmp 39) (Operand.tmp 51) 22, 22, _, _, none⟩) (v := ?_) rfl (by kernel_rfl) (by kernel_rfl) (by kernel_rfl) rfl (fun _ _ _ h => h) (Or.inl ⟨by rfl, ?_⟩) ?_
        rotate_left; · intro w0 _; go_simp; try with_reducible rfl
        try simp only [Act.put, List.setIfInBounds_toArray, List.set_cons_zero, List.set_cons_succ]
        refine Go_.take (i := 21) (oi := ⟨some 53, Op.indexAddr 32 (Operand.tmp 8) (Operand.tmp 32), 0, _, _, none⟩) (v := ?_) rfl (by kernel_rfl) (by kernel_rfl) (by kernel_rfl) rfl (fun _ _ _ h => h) (Or.inl ⟨by rfl, ?_⟩) ?_
        rotate_left; · intro w0 _; go_simp; try with_reducible rfl
        try simp only [Act.put, List.setIfInBounds_toArray, List.set_cons_zero, List.set_cons_succ]
        refine Go_.step (i := 22) (o := ⟨none, Op.store 22 (Operand.tmp 53) (Operand.tmp 52), 0, _, _, none⟩) (by kernel_rfl) rfl (fun K hT hK => ?_)
        rw [if_pos (by rfl)]
        have h8 := (hT.2 rfl).eight
        have hf := (hT.2 rfl).eightFree
        have hk2 := (hT.2 rfl).set 5 (.int .u32 (W (z ^^^ sw s.s5 s.s6)))
        go_simp
        have hA2 := And.intro (hT.1.1.far (p := ⟨w.heap.size + 1, 5, none⟩) (by show w.heap.size ≠ w.heap.size + 1; omega) (.int .u32 (W (z ^^^ sw s.s5 s.s6)))) (hT.1.2.setCell (p := ⟨w.heap.size + 1, 5, none⟩) (by show w.heap.size ≤ w.heap.size + 1; omega) (.int .u32 (W (z ^^^ sw s.s5 s.s6))))
        refine hK.out _ _ (Till.late rfl hA2) ?_
        clear hT hK K
        refine Go_.done (by kernel_rfl) ?_
        have HK := Lib.hid (And.intro hk2 hA2)
        clear hk2 hA2 HS hx0 hx1
        go_wp2_with fail
        go_round
        case rel => exact ⟨6, by omega, by go_num, HK.out.2.1, (by have e : (kwK l s 5).vals.set 5 (.int .u32 (W (z ^^^ sw s.s5 s.s6))) = (kwK l s 6).vals := (by rw [hz9.out]; rfl) ; exact e ▸ HK.out.1), HK.out.2.2⟩
        case measure => simp [intOf]
      · obtain ⟨z, hz9⟩ : ∃ z, Hid (z = sumW (BitVec.ofNat 32 (6 + 2)) (BitVec.ofNat 32 6) l) := ⟨_, rfl⟩
        have HS := Lib.hid (And.intro hz.drew (And.intro hb.drew hk.drew))
        clear hz hb hk
        have hi1 : (IntKind.i64.wrap 7).tmod 8 = 7 := by decide
        have hu0 := u32_byte s.s6
        have hu1 := u32_byte s.s7
        have hor := bits_or_sw2 s.s6 s.s7
        have hx0 : ∀ w, (Instr.index 9 (.string (mkStr [s.s0, s.s1, s.s2, s.s3, s.s4, s.s5, s.s6, s.s7])) (.int .i64 6)).run Try.prog w = .ok (.int .u8 (s.s6.toNat : Int)) w := salt_idx s 6 s.s6 (by omega) rfl
        have hx1 : ∀ w, (Instr.index 9 (.string (mkStr [s.s0, s.s1, s.s2, s.s3, s.s4, s.s5, s.s6, s.s7])) (.int .i64 7)).run Try.prog w = .ok (.int .u8 (s.s7.toNat : Int)) w := salt_idx s 7 s.s7 (by omega) rfl
        refine wp_region_till 22 (fun w' => Holds w' w.heap.size 32 [.int .u32 0, .int .u32 0, .int .u32 0, .int .u32 0, .int .u32 0, .int .u32 0, .int .u32 0, .int .u32 0] ∧ Below w.heap.size w w') (fun w' => Holds w' (w.heap.size + 1) 32 (kwK l s 6).vals) (by kernel_rfl) (⟨HS.out.1, HS.out.2.1⟩) (HS.out.2.2) ?_
        show Go_ _ _ _ _ _ _ _ _ _ _ (World.drew _)
        refine Go_.take (i := 0) (oi := ⟨some 32, Op.move (Operand.tmp 9), 3, _, _, none⟩) (v := ?_) rfl (by kernel_rfl) (by kernel_rfl) (by kernel_rfl) rfl (fun _ _ _ h => h) (Or.inl ⟨by rfl, ?_⟩) ?_
        rotate_left; · intro w0 _; go_simp; try with_reducible rfl
        try simp only [Act.put, List.setIfInBounds_toArray, List.set_cons_zero, List.set_cons_succ]
        refine Go_.take (i := 1) (oi := ⟨some 33, Op.move (Operand.tmp 9), 3, _, _, none⟩) (v := ?_) rfl (by kernel_rfl) (by kernel_rfl) (by kernel_rfl) rfl (fun _ _ _ h => h) (Or.inl ⟨by rfl, ?_⟩) ?_
        rotate_left; · intro w0 _; go_simp; try with_reducible rfl
        try simp only [Act.put, List.setIfInBounds_toArray, List.set_cons_zero, List.set_cons_succ]
        refine Go_.take (i := 2) (oi := ⟨some 34, Op.convert 3 22 (Operand.tmp 33), 22, _, _, none⟩) (v := ?_) rfl (by kernel_rfl) (by kernel_rfl) (by kernel_rfl) rfl (fun _ _ _ h => h) (Or.inl ⟨by rfl, ?_⟩) ?_
        rotate_left; · intro w0 hS; obtain ⟨hzz, hW⟩ := hS; go_simp; try with_reducible rfl
        try simp only [Act.put, List.setIfInBounds_toArray, List.set_cons_zero, List.set_cons_succ]
        refine Go_.take (i := 3) (oi := ⟨some 35, Op.binOp BinOp.add 22 (Operand.tmp 34) (Operand.const (Value.int IntKind.u32 2)) 22, 22, _, _, none⟩) (v := ?_) rfl (by kernel_rfl) (by kernel_rfl) (by kernel_rfl) rfl (fun _ _ _ h => h) (Or.inl ⟨by rfl, ?_⟩) ?_
        rotate_left; · intro w0 _; go_simp; try with_reducible rfl
        try simp only [Act.put, List.setIfInBounds_toArray, List.set_cons_zero, List.set_cons_succ]
        refine Go_.take (i := 4) (oi := ⟨some 36, Op.move (Operand.tmp 9), 3, _, _, none⟩) (v := ?_) rfl (by kernel_rfl) (by kernel_rfl) (by kernel_rfl) rfl (fun _ _ _ h => h) (Or.inl ⟨by rfl, ?_⟩) ?_
        rotate_left; · intro w0 _; go_simp; try with_reducible rfl
        try simp only [Act.put, List.setIfInBounds_toArray, List.set_cons_zero, List.set_cons_succ]
        refine Go_.take (i := 5) (oi := ⟨some 37, Op.convert 3 22 (Operand.tmp 36), 22, _, _, none⟩) (v := ?_) rfl (by kernel_rfl) (by kernel_rfl) (by kernel_rfl) rfl (fun _ _ _ h => h) (Or.inl ⟨by rfl, ?_⟩) ?_
        rotate_left; · intro w0 hS; obtain ⟨hzz, hW⟩ := hS; go_simp; try with_reducible rfl
        try simp only [Act.put, List.setIfInBounds_toArray, List.set_cons_zero, List.set_cons_succ]
        refine Go_.take (i := 6) (oi := ⟨some 38, Op.move (Operand.tmp 0), 9, _, _, none⟩) (v := ?_) rfl (by kernel_rfl) (by kernel_rfl) (by kernel_rfl) rfl (fun _ _ _ h => h) (Or.inl ⟨by rfl, ?_⟩) ?_
        rotate_left; · intro w0 _; go_simp; try with_reducible rfl
        try simp only [Act.put, List.setIfInBounds_toArray, List.set_cons_zero, List.set_cons_succ]
        refine Go_.take (i := 8) (oi := ⟨some 40, Op.move (Operand.tmp 1), 9, _, _, none⟩) (v := ?_) rfl (by kernel_rfl) (by kernel_rfl) (by kernel_rfl) rfl (fun _ _ _ h => h) (Or.inl ⟨by rfl, ?_⟩) ?_
        rotate_left; · intro w0 _; go_simp; try with_reducible rfl
        try simp only [Act.put, List.setIfInBounds_toArray, List.set_cons_zero, List.set_cons_succ]
        refine Go_.take (i := 9) (oi := ⟨some 41, Op.move (Operand.tmp 9), 3, _, _, none⟩) (v := ?_) rfl (by kernel_rfl) (by kernel_rfl) (by kernel_rfl) rfl (fun _ _ _ h => h) (Or.inl ⟨by rfl, ?_⟩) ?_
        rotate_left; · intro w0 _; go_simp; try with_reducible rfl
        try simp only [Act.put, List.setIfInBounds_toArray, List.set_cons_zero, List.set_cons_succ]
        refine Go_.take (i := 10) (oi := ⟨some 42, Op.index 9 (Operand.tmp 40) (Operand.tmp 41), 5, _, _, none⟩) (v := ?_) rfl (by kernel_rfl) (by kernel_rfl) (by kernel_rfl) rfl (fun _ _ _ h => h) (Or.inl ⟨by rfl, ?_⟩) ?_
        rotate_left; · intro w0 _; go_simp; try with_reducible rfl
        try simp only [Act.put, List.setIfInBounds_toArray, List.set_cons_zero, List.set_cons_succ]
        refine Go_.take (i := 11) (oi := ⟨some 43, Op.convert 5 22 (Operand.tmp 42), 22, _, _, none⟩) (v := ?_) rfl (by kernel_rfl) (by kernel_rfl) (by kernel_rfl) rfl (fun _ _ _ h => h) (Or.inl ⟨by rfl, ?_⟩) ?_
        rotate_left; · intro w0 hS; obtain ⟨hzz, hW⟩ := hS; go_simp; try with_reducible rfl
        try simp only [Act.put, List.setIfInBounds_toArray, List.set_cons_zero, List.set_cons_succ]
        refine Go_.take (i := 12) (oi := ⟨some 44, Op.move (Operand.tmp 1), 9, _, _, none⟩) (v := ?_) rfl (by kernel_rfl) (by kernel_rfl) (by kernel_rfl) rfl (fun _ _ _ h => h) (Or.inl ⟨by rfl, ?_⟩) ?_
        rotate_left; · intro w0 _; go_simp; try with_reducible rfl
        try simp only [Act.put, List.setIfInBounds_toArray, List.set_cons_zero, List.set_cons_succ]
        refine Go_.take (i := 13) (oi := ⟨some 45, Op.move (Operand.tmp 9), 3, _, _, none⟩) (v := ?_) rfl (by kernel_rfl) (by kernel_rfl) (by kernel_rfl) rfl (fun _ _ _ h => h) (Or.inl ⟨by rfl, ?_⟩) ?_
        rotate_left; · intro w0 _; go_simp; try with_reducible rfl
        try simp only [Act.put, List.setIfInBounds_toArray, List.set_cons_zero, List.set_cons_succ]
        refine Go_.take (i := 14) (oi := ⟨some 46, Op.binOp BinOp.add 3 (Operand.tmp 45) (Operand.const (Value.int IntKind.i64 1)) 3, 3, _, _, none⟩) (v := ?_) rfl (by kernel_rfl) (by kernel_rfl) (by kernel_rfl) rfl (fun _ _ _ h => h) (Or.inl ⟨by rfl, ?_⟩) ?_
        rotate_left; · intro w0 _; go_simp; try with_reducible rfl
        try simp only [Act.put, List.setIfInBounds_toArray, List.set_cons_zero, List.set_cons_succ]
        refine Go_.take (i := 15) (oi := ⟨some 47, Op.binOp BinOp.rem 3 (Operand.tmp 46) (Operand.const (Value.int IntKind.i64 8)) 3, 3, _, _, none⟩) (v := ?_) rfl (by kernel_rfl) (by kernel_rfl) (by kernel_rfl) rfl (fun _ _ _ h => h) (Or.inl ⟨by rfl, ?_⟩) ?_
        rotate_left; · intro w0 _; go_simp; try with_reducible rfl
        try simp only [Act.put, List.setIfInBounds_toArray, List.set_cons_zero, List.set_cons_succ]
        refine Go_.take (i := 16) (oi := ⟨some 48, Op.index 9 (Operand.tmp 44) (Operand.tmp 47), 5, _, _, none⟩) (v := ?_) rfl (by kernel_rfl) (by kernel_rfl) (by kernel_rfl) rfl (fun _ _ _ h => h) (Or.inl ⟨by rfl, ?_⟩) ?_
        rotate_left; · intro w0 _; go_simp; try with_reducible rfl
        try simp only [Act.put, List.setIfInBounds_toArray, List.set_cons_zero, List.set_cons_succ]
        refine Go_.take (i := 17) (oi := ⟨some 49, Op.convert 5 22 (Operand.tmp 48), 22, _, _, none⟩) (v := ?_) rfl (by kernel_rfl) (by kernel_rfl) (by kernel_rfl) rfl (fun _ _ _ h => h) (Or.inl ⟨by rfl, ?_⟩) ?_
        rotate_left; · intro w0 hS; obtain ⟨hzz, hW⟩ := hS; go_simp; try with_reducible rfl
        try simp only [Act.put, List.setIfInBounds_toArray, List.set_cons_zero, List.set_cons_succ]
        refine Go_.take (i := 18) (oi := ⟨some 50, Op.binOp BinOp.shl 22 (Operand.tmp 49) (Operand.const (Value.int IntKind.u64 8)) 35, 22, _, _, none⟩) (v := ?_) rfl (by kernel_rfl) (by kernel_rfl) (by kernel_rfl) rfl (fun _ _ _ h => h) (Or.inl ⟨by rfl, ?_⟩) ?_
        rotate_left; · intro w0 _; go_simp; try with_reducible rfl
        try simp only [Act.put, List.setIfInBounds_toArray, List.set_cons_zero, List.set_cons_succ]
        refine Go_.take (i := 19) (oi := ⟨some 51, Op.binOp BinOp.or 22 (Operand.tmp 43) (Operand.tmp 50) 22, 22, _, _, none⟩) (v := ?_) rfl (by kernel_rfl) (by kernel_rfl) (by kernel_rfl) rfl (fun _ _ _ h => h) (Or.inl ⟨by rfl, ?_⟩) ?_
        rotate_left; · intro w0 _; go_simp; try with_reducible rfl
        try simp only [Act.put, List.setIfInBounds_toArray, List.set_cons_zero, List.set_cons_succ]
        refine Go_.step (i := 7) (o := ⟨some 39, Op.call { callee := Callee.value (Operand.func 27), args := #[Operand.tmp 35, Operand.tmp 37, Operand.tmp 38], argTypes := #[22, 22, 9] }, 22, _, _, none⟩) (by kernel_rfl) rfl (fun K hT hK => ?_)
        rw [if_pos (by rfl)]
        go_simp
        refine (rkey_sum (BitVec.ofNat 32 (6 + 2)) (BitVec.ofNat 32 6) z l hz9 _ _ rfl rfl _ hl).mono ?_
        rintro e w8 ⟨rfl, rfl⟩
        refine hK.out _ _ (Till.both hT.1 (hT.2 rfl)) ?_
        clear hT hK K
        refine Go_.take (i := 20) (oi := ⟨some 52, Op.binOp BinOp.xor 22 (Operand.tmp 39) (Operand.tmp 51) 22, 22, _, _, none⟩) (v := ?_) rfl (by kernel_rfl) (by kernel_rfl) (by kernel_rfl) rfl (fun _ _ _ h => h) (Or.inl ⟨by rfl, ?_⟩) ?_
        rotate_left; · intro w0 _; go_simp; try with_reducible rfl
        try simp only [Act.put, List.setIfInBounds_toArray, List.set_cons_zero, List.set_cons_succ]
        refine Go_.take (i := 21) (oi := ⟨some 53, Op.indexAddr 32 (Operand.tmp 8) (Operand.tmp 32), 0, _, _, none⟩) (v := ?_) rfl (by kernel_rfl) (by kernel_rfl) (by kernel_rfl) rfl (fun _ _ _ h => h) (Or.inl ⟨by rfl, ?_⟩) ?_
        rotate_left; · intro w0 _; go_simp; try with_reducible rfl
        try simp only [Act.put, List.setIfInBounds_toArray, List.set_cons_zero, List.set_cons_succ]
        refine Go_.step (i := 22) (o := ⟨none, Op.store 22 (Operand.tmp 53) (Operand.tmp 52), 0, _, _, none⟩) (by kernel_rfl) rfl (fun K hT hK => ?_)
        rw [if_pos (by rfl)]
        have h8 := (hT.2 rfl).eight
        have hf := (hT.2 rfl).eightFree
        have hk2 := (hT.2 rfl).set 6 (.int .u32 (W (z ^^^ sw s.s6 s.s7)))
        go_simp
        have hA2 := And.intro (hT.1.1.far (p := ⟨w.heap.size + 1, 6, none⟩) (by show w.heap.size ≠ w.heap.size + 1; omega) (.int .u32 (W (z ^^^ sw s.s6 s.s7)))) (hT.1.2.setCell (p := ⟨w.heap.size + 1, 6, none⟩) (by show w.heap.size ≤ w.heap.size + 1; omega) (.int .u32 (W (z ^^^ sw s.s6 s.s7))))
        refine hK.out _ _ (Till.late rfl hA2) ?_
        clear hT hK K
        refine Go_.done (by kernel_rfl) ?_
        have HK := Lib.hid (And.intro hk2 hA2)
        clear hk2 hA2 HS hx0 hx1
        go_wp2_with fail
        go_round
        case rel => exact ⟨7, by omega, by go_num, HK.out.2.1, (by have e : (kwK l s 6).vals.set 6 (.int .u32 (W (z ^^^ sw s.s6 s.s7))) = (kwK l s 7).vals := (by rw [hz9.out]; rfl) ; exact e ▸ HK.out.1), HK.out.2.2⟩
        case measure => simp [intOf]
      · obtain ⟨z, hz9⟩ : ∃ z, Hid (z = sumW (BitVec.ofNat 32 (7 + 2)) (BitVec.ofNat 32 7) l) := ⟨_, rfl⟩
        have HS := Lib.hid (And.intro hz.drew (And.intro hb.drew hk.drew))
        clear hz hb hk
        have hi1 : (IntKind.i64.wrap 8).tmod 8 = 0 := by decide
        have hu0 := u32_byte s.s7
        have hu1 := u32_byte s.s0
        have hor := bits_or_sw2 s.s7 s.s0
        have hx0 : ∀ w, (Instr.index 9 (.string (mkStr [s.s0, s.s1, s.s2, s.s3, s.s4, s.s5, s.s6, s.s7])) (.int .i64 7)).run Try.prog w = .ok (.int .u8 (s.s7.toNat : Int)) w := salt_idx s 7 s.s7 (by omega) rfl
        have hx1 : ∀ w, (Instr.index 9 (.string (mkStr [s.s0, s.s1, s.s2, s.s3, s.s4, s.s5, s.s6, s.s7])) (.int .i64 0)).run Try.prog w = .ok (.int .u8 (s.s0.toNat : Int)) w := salt_idx s 0 s.s0 (by omega) rfl
        refine wp_region_till 22 (fun w' => Holds w' w.heap.size 32 [.int .u32 0, .int .u32 0, .int .u32 0, .int .u32 0, .int .u32 0, .int .u32 0, .int .u32 0, .int .u32 0] ∧ Below w.heap.size w w') (fun w' => Holds w' (w.heap.size + 1) 32 (kwK l s 7).vals) (by kernel_rfl) (⟨HS.out.1, HS.out.2.1⟩) (HS.out.2.2) ?_
        show Go_ _ _ _ _ _ _ _ _ _ _ (World.drew _)
        refine Go_.take (i := 0) (oi := ⟨some 32, Op.move (Operand.tmp 9), 3, _, _, none⟩) (v := ?_) rfl (by kernel_rfl) (by kernel_rfl) (by kernel_rfl) rfl (fun _ _ _ h => h) (Or.inl ⟨by rfl, ?_⟩) ?_
        rotate_left; · intro w0 _; go_simp; try with_reducible rfl
        try simp only [Act.put, List.setIfInBounds_toArray, List.set_cons_zero, List.set_cons_succ]
        refine Go_.take (i := 1) (oi := ⟨some 33, Op.move (Operand.tmp 9), 3, _, _, none⟩) (v := ?_) rfl (by kernel_rfl) (by kernel_rfl) (by kernel_rfl) rfl (fun _ _ _ h => h) (Or.inl ⟨by rfl, ?_⟩) ?_
        rotate_left; · intro w0 _; go_simp; try with_reducible rfl
        try simp only [Act.put, List.setIfInBounds_toArray, List.set_cons_zero, List.set_cons_succ]
        refine Go_.take (i := 2) (oi := ⟨some 34, Op.convert 3 22 (Operand.tmp 33), 22, _, _, none⟩) (v := ?_) rfl (by kernel_rfl) (by kernel_rfl) (by kernel_rfl) rfl (fun _ _ _ h => h) (Or.inl ⟨by rfl, ?_⟩) ?_
        rotate_left; · intro w0 hS; obtain ⟨hzz, hW⟩ := hS; go_simp; try with_reducible rfl
        try simp only [Act.put, List.setIfInBounds_toArray, List.set_cons_zero, List.set_cons_succ]
        refine Go_.take (i := 3) (oi := ⟨some 35, Op.binOp BinOp.add 22 (Operand.tmp 34) (Operand.const (Value.int IntKind.u32 2)) 22, 22, _, _, none⟩) (v := ?_) rfl (by kernel_rfl) (by kernel_rfl) (by kernel_rfl) rfl (fun _ _ _ h => h) (Or.inl ⟨by rfl, ?_⟩) ?_
        rotate_left; · intro w0 _; go_simp; try with_reducible rfl
        try simp only [Act.put, List.setIfInBounds_toArray, List.set_cons_zero, List.set_cons_succ]
        refine Go_.take (i := 4) (oi := ⟨some 36, Op.move (Operand.tmp 9), 3, _, _, none⟩) (v := ?_) rfl (by kernel_rfl) (by kernel_rfl) (by kernel_rfl) rfl (fun _ _ _ h => h) (Or.inl ⟨by rfl, ?_⟩) ?_
        rotate_left; · intro w0 _; go_simp; try with_reducible rfl
        try simp only [Act.put, List.setIfInBounds_toArray, List.set_cons_zero, List.set_cons_succ]
        refine Go_.take (i := 5) (oi := ⟨some 37, Op.convert 3 22 (Operand.tmp 36), 22, _, _, none⟩) (v := ?_) rfl (by kernel_rfl) (by kernel_rfl) (by kernel_rfl) rfl (fun _ _ _ h => h) (Or.inl ⟨by rfl, ?_⟩) ?_
        rotate_left; · intro w0 hS; obtain ⟨hzz, hW⟩ := hS; go_simp; try with_reducible rfl
        try simp only [Act.put, List.setIfInBounds_toArray, List.set_cons_zero, List.set_cons_succ]
        refine Go_.take (i := 6) (oi := ⟨some 38, Op.move (Operand.tmp 0), 9, _, _, none⟩) (v := ?_) rfl (by kernel_rfl) (by kernel_rfl) (by kernel_rfl) rfl (fun _ _ _ h => h) (Or.inl ⟨by rfl, ?_⟩) ?_
        rotate_left; · intro w0 _; go_simp; try with_reducible rfl
        try simp only [Act.put, List.setIfInBounds_toArray, List.set_cons_zero, List.set_cons_succ]
        refine Go_.take (i := 8) (oi := ⟨some 40, Op.move (Operand.tmp 1), 9, _, _, none⟩) (v := ?_) rfl (by kernel_rfl) (by kernel_rfl) (by kernel_rfl) rfl (fun _ _ _ h => h) (Or.inl ⟨by rfl, ?_⟩) ?_
        rotate_left; · intro w0 _; go_simp; try with_reducible rfl
        try simp only [Act.put, List.setIfInBounds_toArray, List.set_cons_zero, List.set_cons_succ]
        refine Go_.take (i := 9) (oi := ⟨some 41, Op.move (Operand.tmp 9), 3, _, _, none⟩) (v := ?_) rfl (by kernel_rfl) (by kernel_rfl) (by kernel_rfl) rfl (fun _ _ _ h => h) (Or.inl ⟨by rfl, ?_⟩) ?_
        rotate_left; · intro w0 _; go_simp; try with_reducible rfl
        try simp only [Act.put, List.setIfInBounds_toArray, List.set_cons_zero, List.set_cons_succ]
        refine Go_.take (i := 10) (oi := ⟨some 42, Op.index 9 (Operand.tmp 40) (Operand.tmp 41), 5, _, _, none⟩) (v := ?_) rfl (by kernel_rfl) (by kernel_rfl) (by kernel_rfl) rfl (fun _ _ _ h => h) (Or.inl ⟨by rfl, ?_⟩) ?_
        rotate_left; · intro w0 _; go_simp; try with_reducible rfl
        try simp only [Act.put, List.setIfInBounds_toArray, List.set_cons_zero, List.set_cons_succ]
        refine Go_.take (i := 11) (oi := ⟨some 43, Op.convert 5 22 (Operand.tmp 42), 22, _, _, none⟩) (v := ?_) rfl (by kernel_rfl) (by kernel_rfl) (by kernel_rfl) rfl (fun _ _ _ h => h) (Or.inl ⟨by rfl, ?_⟩) ?_
        rotate_left; · intro w0 hS; obtain ⟨hzz, hW⟩ := hS; go_simp; try with_reducible rfl
        try simp only [Act.put, List.setIfInBounds_toArray, List.set_cons_zero, List.set_cons_succ]
        refine Go_.take (i := 12) (oi := ⟨some 44, Op.move (Operand.tmp 1), 9, _, _, none⟩) (v := ?_) rfl (by kernel_rfl) (by kernel_rfl) (by kernel_rfl) rfl (fun _ _ _ h => h) (Or.inl ⟨by rfl, ?_⟩) ?_
        rotate_left; · intro w0 _; go_simp; try with_reducible rfl
        try simp only [Act.put, List.setIfInBounds_toArray, List.set_cons_zero, List.set_cons_succ]
        refine Go_.take (i := 13) (oi := ⟨some 45, Op.move (Operand.tmp 9), 3, _, _, none⟩) (v := ?_) rfl (by kernel_rfl) (by kernel_rfl) (by kernel_rfl) rfl (fun _ _ _ h => h) (Or.inl ⟨by rfl, ?_⟩) ?_
        rotate_left; · intro w0 _; go_simp; try with_reducible rfl
        try simp only [Act.put, List.setIfInBounds_toArray, List.set_cons_zero, List.set_cons_succ]
        refine Go_.take (i := 14) (oi := ⟨some 46, Op.binOp BinOp.add 3 (Operand.tmp 45) (Operand.const (Value.int IntKind.i64 1)) 3, 3, _, _, none⟩) (v := ?_) rfl (by kernel_rfl) (by kernel_rfl) (by kernel_rfl) rfl (fun _ _ _ h => h) (Or.inl ⟨by rfl, ?_⟩) ?_
        rotate_left; · intro w0 _; go_simp; try with_reducible rfl
        try simp only [Act.put, List.setIfInBounds_toArray, List.set_cons_zero, List.set_cons_succ]
        refine Go_.take (i := 15) (oi := ⟨some 47, Op.binOp BinOp.rem 3 (Operand.tmp 46) (Operand.const (Value.int IntKind.i64 8)) 3, 3, _, _, none⟩) (v := ?_) rfl (by kernel_rfl) (by kernel_rfl) (by kernel_rfl) rfl (fun _ _ _ h => h) (Or.inl ⟨by rfl, ?_⟩) ?_
        rotate_left; · intro w0 _; go_simp; try with_reducible rfl
        try simp only [Act.put, List.setIfInBounds_toArray, List.set_cons_zero, List.set_cons_succ]
        refine Go_.take (i := 16) (oi := ⟨some 48, Op.index 9 (Operand.tmp 44) (Operand.tmp 47), 5, _, _, none⟩) (v := ?_) rfl (by kernel_rfl) (by kernel_rfl) (by kernel_rfl) rfl (fun _ _ _ h => h) (Or.inl ⟨by rfl, ?_⟩) ?_
        rotate_left; · intro w0 _; go_simp; try with_reducible rfl
        try simp only [Act.put, List.setIfInBounds_toArray, List.set_cons_zero, List.set_cons_succ]
        refine Go_.take (i := 17) (oi := ⟨some 49, Op.convert 5 22 (Operand.tmp 48), 22, _, _, none⟩) (v := ?_) rfl (by kernel_rfl) (by kernel_rfl) (by kernel_rfl) rfl (fun _ _ _ h => h) (Or.inl ⟨by rfl, ?_⟩) ?_
        rotate_left; · intro w0 hS; obtain ⟨hzz, hW⟩ := hS; go_simp; try with_reducible rfl
        try simp only [Act.put, List.setIfInBounds_toArray, List.set_cons_zero, List.set_cons_succ]
        refine Go_.take (i := 18) (oi := ⟨some 50, Op.binOp BinOp.shl 22 (Operand.tmp 49) (Operand.const (Value.int IntKind.u64 8)) 35, 22, _, _, none⟩) (v := ?_) rfl (by kernel_rfl) (by kernel_rfl) (by kernel_rfl) rfl (fun _ _ _ h => h) (Or.inl ⟨by rfl, ?_⟩) ?_
        rotate_left; · intro w0 _; go_simp; try with_reducible rfl
        try simp only [Act.put, List.setIfInBounds_toArray, List.set_cons_zero, List.set_cons_succ]
        refine Go_.take (i := 19) (oi := ⟨some 51, Op.binOp BinOp.or 22 (Operand.tmp 43) (Operand.tmp 50) 22, 22, _, _, none⟩) (v := ?_) rfl (by kernel_rfl) (by kernel_rfl) (by kernel_rfl) rfl (fun _ _ _ h => h) (Or.inl ⟨by rfl, ?_⟩) ?_
        rotate_left; · intro w0 _; go_simp; try with_reducible rfl
        try simp only [Act.put, List.setIfInBounds_toArray, List.set_cons_zero, List.set_cons_succ]
        refine Go_.step (i := 7) (o := ⟨some 39, Op.call { callee := Callee.value (Operand.func 27), args := #[Operand.tmp 35, Operand.tmp 37, Operand.tmp 38], argTypes := #[22, 22, 9] }, 22, _, _, none⟩) (by kernel_rfl) rfl (fun K hT hK => ?_)
        rw [if_pos (by rfl)]
        go_simp
        refine (rkey_sum (BitVec.ofNat 32 (7 + 2)) (BitVec.ofNat 32 7) z l hz9 _ _ rfl rfl _ hl).mono ?_
        rintro e w8 ⟨rfl, rfl⟩
        refine hK.out _ _ (Till.both hT.1 (hT.2 rfl)) ?_
        clear hT hK K
        refine Go_.take (i := 20) (oi := ⟨some 52, Op.binOp BinOp.xor 22 (Operand.tmp 39) (Operand.tmp 51) 22, 22, _, _, none⟩) (v := ?_) rfl (by kernel_rfl) (by kernel_rfl) (by kernel_rfl) rfl (fun _ _ _ h => h) (Or.inl ⟨by rfl, ?_⟩) ?_
        rotate_left; · intro w0 _; go_simp; try with_reducible rfl
        try simp only [Act.put, List.setIfInBounds_toArray, List.set_cons_zero, List.set_cons_succ]
        refine Go_.take (i := 21) (oi := ⟨some 53, Op.indexAddr 32 (Operand.tmp 8) (Operand.tmp 32), 0, _, _, none⟩) (v := ?_) rfl (by kernel_rfl) (by kernel_rfl) (by kernel_rfl) rfl (fun _ _ _ h => h) (Or.inl ⟨by rfl, ?_⟩) ?_
        rotate_left; · intro w0 _; go_simp; try with_reducible rfl
        try simp only [Act.put, List.setIfInBounds_toArray, List.set_cons_zero, List.set_cons_succ]
        refine Go_.step (i := 22) (o := ⟨none, Op.store 22 (Operand.tmp 53) (Operand.tmp 52), 0, _, _, none⟩) (by kernel_rfl) rfl (fun K hT hK => ?_)
        rw [if_pos (by rfl)]
        have h8 := (hT.2 rfl).eight
        have hf := (hT.2 rfl).eightFree
        have hk2 := (hT.2 rfl).set 7 (.int .u32 (W (z ^^^ sw s.s7 s.s0)))
        go_simp
        have hA2 := And.intro (hT.1.1.far (p := ⟨w.heap.size + 1, 7, none⟩) (by show w.heap.size ≠ w.heap.size + 1; omega) (.int .u32 (W (z ^^^ sw s.s7 s.s0)))) (hT.1.2.setCell (p := ⟨w.heap.size + 1, 7, none⟩) (by show w.heap.size ≤ w.heap.size + 1; omega) (.int .u32 (W (z ^^^ sw s.s7 s.s0))))
        refine hK.out _ _ (Till.late rfl hA2) ?_
        clear hT hK K
        refine Go_.done (by kernel_rfl) ?_
        have HK := Lib.hid (And.intro hk2 hA2)
        clear hk2 hA2 HS hx0 hx1
        go_wp2_with fail
        go_round
        case rel => exact ⟨8, by omega, by go_num, HK.out.2.1, (by have e : (kwK l s 7).vals.set 7 (.int .u32 (W (z ^^^ sw s.s7 s.s0))) = (kwK l s 8).vals := (by rw [hz9.out]; rfl) ; exact e ▸ HK.out.1), HK.out.2.2⟩
        case measure => simp [intOf]
    · obtain rfl : j = 8 := by omega
      rw [show ((8 : Nat) : Int) = 8 from rfl]
      go_wp2_with fail
      go_loopw [10] (fun v wr => ∃ m : Nat, m ≤ n ∧ v = .int .i64 ((m : Int) + 1) ∧ Holds wr w.heap.size 32 [.int .u32 0, .int .u32 0, .int .u32 0, .int .u32 0, .int .u32 0, .int .u32 0, .int .u32 0, .int .u32 0] ∧ Holds wr (w.heap.size + 1) 32 (krun m (kwK l s 8)).vals ∧ Below w.heap.size w wr) (fun v _ => (n + 1 - intOf v).toNat)
      case atStart => exact ⟨0, by omega, by simp, hz, hk, hb⟩
      case round =>
        clear hz hk hb
        obtain ⟨m, hm, rfl, hz, hk, hb⟩ := hrel
        have hlt1 := hk.lt
        generalize hKK : krun m (kwK l s 8) = K at *
        have HKK := Lib.hid hKK
        clear hKK
        have k8 := hk.eight
        have kf := hk.eightFree
        by_cases hlt : m < n
        · obtain ⟨M, hM⟩ : ∃ M, Hid (M = mix K) := ⟨_, rfl⟩
          obtain ⟨q, hq, hx⟩ : ∃ q : BitVec 32, Hid (q = BitVec.ofNat 32 (m + 1)) ∧ bits .xor .u32 (W M.k7) ((m : Int) + 1) = W (M.k7 ^^^ q) := ⟨_, rfl, by
            have e : ((m : Int) + 1) = W (BitVec.ofNat 32 (m + 1)) := by unfold W; rw [BitVec.toNat_ofNat]; omega
            rw [e, bits_xor_W]⟩
          go_wp2_with fail
          refine (kr_mix K M hM _).mono ?_
          rintro e w2 ⟨rfl, hb2⟩
          have hk2 := hk.below hb2 hk.lt
          have hz2 := hz.below hb2 hz.lt
          have hbb := hb.trans (hb2.mono hb.size)
          have hs2 := hb2.size
          have k8 := hk2.eight
          have kf := hk2.eightFree
          have hg3 : Holds ((((((((w2.setCell ⟨w.heap.size + 1, 0, none⟩ (.int .u32 (W M.k0))).setCell ⟨w.heap.size + 1, 1, none⟩ (.int .u32 (W M.k1))).setCell ⟨w.heap.size + 1, 2, none⟩ (.int .u32 (W M.k2))).setCell ⟨w.heap.size + 1, 3, none⟩ (.int .u32 (W M.k3))).setCell ⟨w.heap.size + 1, 4, none⟩ (.int .u32 (W M.k4))).setCell ⟨w.heap.size + 1, 5, none⟩ (.int .u32 (W M.k5))).setCell ⟨w.heap.size + 1, 6, none⟩ (.int .u32 (W M.k6))).setCell ⟨w.heap.size + 1, 7, none⟩ (.int .u32 (W M.k7))) (w.heap.size + 1) 32 [.int .u32 (W M.k0), .int .u32 (W M.k1), .int .u32 (W M.k2), .int .u32 (W M.k3), .int .u32 (W M.k4), .int .u32 (W M.k5), .int .u32 (W M.k6), .int .u32 (W M.k7)] := Holds.set8 (K := K) hk2
          have hb3 : Below w.heap.size w ((((((((w2.setCell ⟨w.heap.size + 1, 0, none⟩ (.int .u32 (W M.k0))).setCell ⟨w.heap.size + 1, 1, none⟩ (.int .u32 (W M.k1))).setCell ⟨w.heap.size + 1, 2, none⟩ (.int .u32 (W M.k2))).setCell ⟨w.heap.size + 1, 3, none⟩ (.int .u32 (W M.k3))).setCell ⟨w.heap.size + 1, 4, none⟩ (.int .u32 (W M.k4))).setCell ⟨w.heap.size + 1, 5, none⟩ (.int .u32 (W M.k5))).setCell ⟨w.heap.size + 1, 6, none⟩ (.int .u32 (W M.k6))).setCell ⟨w.heap.size + 1, 7, none⟩ (.int .u32 (W M.k7))) := below_set8 hbb (by omega)
          have hz3 : Holds ((((((((w2.setCell ⟨w.heap.size + 1, 0, none⟩ (.int .u32 (W M.k0))).setCell ⟨w.heap.size + 1, 1, none⟩ (.int .u32 (W M.k1))).setCell ⟨w.heap.size + 1, 2, none⟩ (.int .u32 (W M.k2))).setCell ⟨w.heap.size + 1, 3, none⟩ (.int .u32 (W M.k3))).setCell ⟨w.heap.size + 1, 4, none⟩ (.int .u32 (W M.k4))).setCell ⟨w.heap.size + 1, 5, none⟩ (.int .u32 (W M.k5))).setCell ⟨w.heap.size + 1, 6, none⟩ (.int .u32 (W M.k6))).setCell ⟨w.heap.size + 1, 7, none⟩ (.int .u32 (W M.k7))) w.heap.size 32 [.int .u32 0, .int .u32 0, .int .u32 0, .int .u32 0, .int .u32 0, .int .u32 0, .int .u32 0, .int .u32 0] := far8 hz2 (by omega)
          have HG := Lib.hid (And.intro hg3 (And.intro hz3 hb3))
          clear hg3 hz3 hb3 hk hb hz hk2 hz2 hbb hb2
          go_wp2_with fail
          generalize ((((((((w2.setCell ⟨w.heap.size + 1, 0, none⟩ (.int .u32 (W M.k0))).setCell ⟨w.heap.size + 1, 1, none⟩ (.int .u32 (W M.k1))).setCell ⟨w.heap.size + 1, 2, none⟩ (.int .u32 (W M.k2))).setCell ⟨w.heap.size + 1, 3, none⟩ (.int .u32 (W M.k3))).setCell ⟨w.heap.size + 1, 4, none⟩ (.int .u32 (W M.k4))).setCell ⟨w.heap.size + 1, 5, none⟩ (.int .u32 (W M.k5))).setCell ⟨w.heap.size + 1, 6, none⟩ (.int .u32 (W M.k6))).setCell ⟨w.heap.size + 1, 7, none⟩ (.int .u32 (W M.k7))) = wx at HG ⊢
          obtain ⟨hg3, hz3, hb3⟩ := HG.out
          have hk4 := hg3.set 7 (.int .u32 (W (M.k7 ^^^ q)))
          have hz4 := hz3.far (p := ⟨w.heap.size + 1, 7, none⟩) (by show w.heap.size ≠ w.heap.size + 1; omega) (.int .u32 (W (M.k7 ^^^ q)))
          have hb4 := hb3.setCell (p := ⟨w.heap.size + 1, 7, none⟩) (by show w.heap.size ≤ w.heap.size + 1; omega) (.int .u32 (W (M.k7 ^^^ q)))
          have e4 : [.int .u32 (W M.k0), .int .u32 (W M.k1), .int .u32 (W M.k2), .int .u32 (W M.k3), .int .u32 (W M.k4), .int .u32 (W M.k5), .int .u32 (W M.k6), .int .u32 (W M.k7)].set 7 (.int .u32 (W (M.k7 ^^^ q))) = (krun (m + 1) (kwK l s 8)).vals := by
            rw [krun, HKK.out, ← hM.out, hq.out]; rfl
          rw [e4] at hk4
          go_round
          case rel => exact ⟨m + 1, by omega, by simp, hz4, hk4, hb4⟩
          case measure => simp [intOf]; omega
        · have z8 := hz.eight
          have zf := hz.eightFree
          have hg3 : Holds ((((((((wr.setCell ⟨w.heap.size, 0, none⟩ (.int .u32 (W K.k0))).setCell ⟨w.heap.size, 1, none⟩ (.int .u32 (W K.k1))).setCell ⟨w.heap.size, 2, none⟩ (.int .u32 (W K.k2))).setCell ⟨w.heap.size, 3, none⟩ (.int .u32 (W K.k3))).setCell ⟨w.heap.size, 4, none⟩ (.int .u32 (W K.k4))).setCell ⟨w.heap.size, 5, none⟩ (.int .u32 (W K.k5))).setCell ⟨w.heap.size, 6, none⟩ (.int .u32 (W K.k6))).setCell ⟨w.heap.size, 7, none⟩ (.int .u32 (W K.k7))) w.heap.size 32 [.int .u32 (W K.k0), .int .u32 (W K.k1), .int .u32 (W K.k2), .int .u32 (W K.k3), .int .u32 (W K.k4), .int .u32 (W K.k5), .int .u32 (W K.k6), .int .u32 (W K.k7)] := set8g hz
          have hb3 : Below w.heap.size w ((((((((wr.setCell ⟨w.heap.size, 0, none⟩ (.int .u32 (W K.k0))).setCell ⟨w.heap.size, 1, none⟩ (.int .u32 (W K.k1))).setCell ⟨w.heap.size, 2, none⟩ (.int .u32 (W K.k2))).setCell ⟨w.heap.size, 3, none⟩ (.int .u32 (W K.k3))).setCell ⟨w.heap.size, 4, none⟩ (.int .u32 (W K.k4))).setCell ⟨w.heap.size, 5, none⟩ (.int .u32 (W K.k5))).setCell ⟨w.heap.size, 6, none⟩ (.int .u32 (W K.k6))).setCell ⟨w.heap.size, 7, none⟩ (.int .u32 (W K.k7))) := below_set8 hb (by omega)
          have HG := Lib.hid (And.intro hg3 hb3)
          clear hg3 hb3 hb hz hk
          go_wp2_with fail
          generalize ((((((((wr.setCell ⟨w.heap.size, 0, none⟩ (.int .u32 (W K.k0))).setCell ⟨w.heap.size, 1, none⟩ (.int .u32 (W K.k1))).setCell ⟨w.heap.size, 2, none⟩ (.int .u32 (W K.k2))).setCell ⟨w.heap.size, 3, none⟩ (.int .u32 (W K.k3))).setCell ⟨w.heap.size, 4, none⟩ (.int .u32 (W K.k4))).setCell ⟨w.heap.size, 5, none⟩ (.int .u32 (W K.k5))).setCell ⟨w.heap.size, 6, none⟩ (.int .u32 (W K.k6))).setCell ⟨w.heap.size, 7, none⟩ (.int .u32 (W K.k7))) = wx at HG ⊢
          obtain ⟨hg3, hb3⟩ := HG.out
          have hg8 := hg3.eight
          obtain rfl : m = n := by omega
          refine bodyPost_ret (v := .tuple #[.agg #[.int .u32 (W K.k0), .int .u32 (W K.k1), .int .u32 (W K.k2), .int .u32 (W K.k3), .int .u32 (W K.k4), .int .u32 (W K.k5), .int .u32 (W K.k6), .int .u32 (W K.k7)], .int .i64 0]) (by simp [results, Try.results38, go_sem, hg8]) rfl ⟨?_, hb3⟩
          rw [keyL, HKK.out]; rfl
end Go.Proofs.Ytcdklmicbbcknaa
