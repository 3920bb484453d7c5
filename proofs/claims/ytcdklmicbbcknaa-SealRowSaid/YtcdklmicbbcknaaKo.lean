/-
  key.Of: what it comes to, by a walk of its text (printed by ko.py).
-/
import Derived.Test.YtcdklmicbbcknaaYk
import Derived.Test.YtcdklmicbbcknaaRt
import Derived.Test.YtcdklmicbbcknaaPt
namespace Go.Proofs.Ytcdklmicbbcknaa
open Go Go.RowKit
theorem wp_bts {o : Oper} {a : Act} {K : Act → World → Prop} {Q : Exit → Act → World → Prop} {w : World} {l : List UInt8} (x : Operand) (ho : o.op = .convert 9 24 x) (hx : a.eval x = .string (mkStr l))
    (hK : ∀ c w', Bts w' (some ⟨w.heap.size, 0, none⟩) l → Below w.heap.size w w' → K (a.put o.dst (.slice (some ⟨w.heap.size, 0, none⟩) l.length c)) w') : o.wp Try.prog a w K Q := by
  obtain ⟨w', c, hr, hB, hb⟩ := run_bts (mkStr l) w
  unfold Oper.wp execOp
  simp only [ho, hx, hr, Sem.run_bind, Sem.run_pure, Result.andThen_ok]
  exact hK c w' hB hb
theorem bits_or_sw (a b : UInt8) : bits .or .u32 (a.toNat : Int) ((b.toNat : Int) * 256) = W (sw a b) := by
  have ha := UInt8.toNat_lt a
  have hb := UInt8.toNat_lt b
  have h := u32_or_nat a.toNat (b.toNat * 256) (by omega) (by omega)
  have e : ((b.toNat : Int) * 256) = ((b.toNat * 256 : Nat) : Int) := by omega
  rw [e, h, W_sw]
  have h2 := Nat.two_pow_add_eq_or_of_lt (i := 8) ha b.toNat
  rw [Nat.or_comm, show b.toNat * 256 = 2 ^ 8 * b.toNat by omega, ← h2]
  omega
theorem bits_or_sw2 (a b : UInt8) : bits .or .u32 (a.toNat : Int) (IntKind.u32.wrap ((b.toNat : Int) * 256)) = W (sw a b) := by
  have hb := UInt8.toNat_lt b
  have e : IntKind.u32.wrap ((b.toNat : Int) * 256) = (b.toNat : Int) * 256 := by simp [IntKind.wrap, IntKind.bits, IntKind.signed]; omega
  rw [e, bits_or_sw]
theorem u32_byte (a : UInt8) : IntKind.u32.wrap (a.toNat : Int) = (a.toNat : Int) := by
  have := UInt8.toNat_lt a
  simp [IntKind.wrap, IntKind.bits, IntKind.signed]; omega
theorem key_sum (R S z : BitVec 32) (l : List UInt8) (hz : Hid (z = sumW R S l)) (r t : Int) (hr : r = W R) (ht : t = W S) (A : Option Addr) (c : Nat) (w : World) (hl : l.length ≤ 100) (hB : Bts w A l) : Calls Try.prog 26 #[.int .u32 r, .int .u32 t, .slice A l.length c] w fun e w' => e = .returned (.int .u32 (W z)) ∧ w = w' := by
  subst hr ht
  obtain rfl := hz.out
  exact sum_any R S A l c w (by omega) hB
attribute [local go_sem] W_add W_sub bits_xor_W bits_or_W bits_or_sw
theorem ko_mix (k M : K8) (hM : Hid (M = mix k)) (w : World) : Calls Try.prog 41 #[.agg #[.int .u32 (W k.k0), .int .u32 (W k.k1), .int .u32 (W k.k2), .int .u32 (W k.k3), .int .u32 (W k.k4), .int .u32 (W k.k5), .int .u32 (W k.k6), .int .u32 (W k.k7)]] w fun e w' => e = .returned (.agg #[.int .u32 (W M.k0), .int .u32 (W M.k1), .int .u32 (W M.k2), .int .u32 (W M.k3), .int .u32 (W M.k4), .int .u32 (W M.k5), .int .u32 (W M.k6), .int .u32 (W M.k7)]) ∧ Below w.heap.size w w' := by
  obtain rfl := hM.out
  exact mix_any k w
theorem set8g {w : World} {g : Nat} {t : TypeId} {m : K8} {v0 v1 v2 v3 v4 v5 v6 v7 : Value} (hg : Holds w g t [v0, v1, v2, v3, v4, v5, v6, v7]) : Holds ((((((((w.setCell ⟨g, 0, none⟩ (.int .u32 (W m.k0))).setCell ⟨g, 1, none⟩ (.int .u32 (W m.k1))).setCell ⟨g, 2, none⟩ (.int .u32 (W m.k2))).setCell ⟨g, 3, none⟩ (.int .u32 (W m.k3))).setCell ⟨g, 4, none⟩ (.int .u32 (W m.k4))).setCell ⟨g, 5, none⟩ (.int .u32 (W m.k5))).setCell ⟨g, 6, none⟩ (.int .u32 (W m.k6))).setCell ⟨g, 7, none⟩ (.int .u32 (W m.k7))) g t [.int .u32 (W m.k0), .int .u32 (W m.k1), .int .u32 (W m.k2), .int .u32 (W m.k3), .int .u32 (W m.k4), .int .u32 (W m.k5), .int .u32 (W m.k6), .int .u32 (W m.k7)] :=
  ((((((((hg.set 0 (.int .u32 (W m.k0))).set 1 (.int .u32 (W m.k1))).set 2 (.int .u32 (W m.k2))).set 3 (.int .u32 (W m.k3))).set 4 (.int .u32 (W m.k4))).set 5 (.int .u32 (W m.k5))).set 6 (.int .u32 (W m.k6))).set 7 (.int .u32 (W m.k7)))
theorem far8 {w : World} {g g2 : Nat} {t : TypeId} {m : K8} {cs : List Value} (h : Holds w g2 t cs) (hne : g2 ≠ g) : Holds ((((((((w.setCell ⟨g, 0, none⟩ (.int .u32 (W m.k0))).setCell ⟨g, 1, none⟩ (.int .u32 (W m.k1))).setCell ⟨g, 2, none⟩ (.int .u32 (W m.k2))).setCell ⟨g, 3, none⟩ (.int .u32 (W m.k3))).setCell ⟨g, 4, none⟩ (.int .u32 (W m.k4))).setCell ⟨g, 5, none⟩ (.int .u32 (W m.k5))).setCell ⟨g, 6, none⟩ (.int .u32 (W m.k6))).setCell ⟨g, 7, none⟩ (.int .u32 (W m.k7))) g2 t cs :=
  (Holds.far (p := ⟨g, 7, none⟩) (Holds.far (p := ⟨g, 6, none⟩) (Holds.far (p := ⟨g, 5, none⟩) (Holds.far (p := ⟨g, 4, none⟩) (Holds.far (p := ⟨g, 3, none⟩) (Holds.far (p := ⟨g, 2, none⟩) (Holds.far (p := ⟨g, 1, none⟩) (Holds.far (p := ⟨g, 0, none⟩) h hne (.int .u32 (W m.k0))) hne (.int .u32 (W m.k1))) hne (.int .u32 (W m.k2))) hne (.int .u32 (W m.k3))) hne (.int .u32 (W m.k4))) hne (.int .u32 (W m.k5))) hne (.int .u32 (W m.k6))) hne (.int .u32 (W m.k7)))
def keyFr (w : World) (n m : Nat) : List (Option Value) := none :: none :: some (.int .i64 n) :: none :: some (.pointer (some ⟨w.heap.size, 0, none⟩)) :: none :: some (.pointer (some ⟨w.heap.size + 1, 0, none⟩)) :: none :: some (.pointer (some ⟨w.heap.size + 1 + 1, 0, none⟩)) :: none :: some (.int .i64 ((m : Int) + 1)) :: List.replicate 53 none
set_option maxRecDepth 20000 in
set_option maxHeartbeats 16000000 in
theorem key_good (l : List UInt8) (s : S8) (n : Nat) (w : World) (hl : l.length ≤ 100) (hn1 : 1 ≤ n) (hn2 : n ≤ 1000) :
    Calls Try.prog 37 #[.string (mkStr l), .agg #[.int .u8 (s.s0.toNat : Int), .int .u8 (s.s1.toNat : Int), .int .u8 (s.s2.toNat : Int), .int .u8 (s.s3.toNat : Int), .int .u8 (s.s4.toNat : Int), .int .u8 (s.s5.toNat : Int), .int .u8 (s.s6.toNat : Int), .int .u8 (s.s7.toNat : Int)], .int .i64 n] w fun e w' => e = .returned (.tuple #[.agg (keyL l s n).vals.toArray, .int .i64 0]) ∧ Below w.heap.size w w' := by
  have hsz : (mkStr l).size = l.length := mkStr_size l
  have hs0 : Holds (((w.alloc (.cells #[.int .u8 (s.s0.toNat : Int), .int .u8 (s.s1.toNat : Int), .int .u8 (s.s2.toNat : Int), .int .u8 (s.s3.toNat : Int), .int .u8 (s.s4.toNat : Int), .int .u8 (s.s5.toNat : Int), .int .u8 (s.s6.toNat : Int), .int .u8 (s.s7.toNat : Int)] 26)).alloc (.cells #[.int .u32 0, .int .u32 0, .int .u32 0, .int .u32 0, .int .u32 0, .int .u32 0, .int .u32 0, .int .u32 0] 28)).alloc (.cells #[.int .u32 0, .int .u32 0, .int .u32 0, .int .u32 0, .int .u32 0, .int .u32 0, .int .u32 0, .int .u32 0] 28)) w.heap.size 26 [.int .u8 (s.s0.toNat : Int), .int .u8 (s.s1.toNat : Int), .int .u8 (s.s2.toNat : Int), .int .u8 (s.s3.toNat : Int), .int .u8 (s.s4.toNat : Int), .int .u8 (s.s5.toNat : Int), .int .u8 (s.s6.toNat : Int), .int .u8 (s.s7.toNat : Int)] := ((Holds.new w 26 [.int .u8 (s.s0.toNat : Int), .int .u8 (s.s1.toNat : Int), .int .u8 (s.s2.toNat : Int), .int .u8 (s.s3.toNat : Int), .int .u8 (s.s4.toNat : Int), .int .u8 (s.s5.toNat : Int), .int .u8 (s.s6.toNat : Int), .int .u8 (s.s7.toNat : Int)]).alloc _).alloc _
  have hz0 : Holds (((w.alloc (.cells #[.int .u8 (s.s0.toNat : Int), .int .u8 (s.s1.toNat : Int), .int .u8 (s.s2.toNat : Int), .int .u8 (s.s3.toNat : Int), .int .u8 (s.s4.toNat : Int), .int .u8 (s.s5.toNat : Int), .int .u8 (s.s6.toNat : Int), .int .u8 (s.s7.toNat : Int)] 26)).alloc (.cells #[.int .u32 0, .int .u32 0, .int .u32 0, .int .u32 0, .int .u32 0, .int .u32 0, .int .u32 0, .int .u32 0] 28)).alloc (.cells #[.int .u32 0, .int .u32 0, .int .u32 0, .int .u32 0, .int .u32 0, .int .u32 0, .int .u32 0, .int .u32 0] 28)) (w.heap.size + 1) 28 [.int .u32 0, .int .u32 0, .int .u32 0, .int .u32 0, .int .u32 0, .int .u32 0, .int .u32 0, .int .u32 0] := (Holds.newAt _ 28 [.int .u32 0, .int .u32 0, .int .u32 0, .int .u32 0, .int .u32 0, .int .u32 0, .int .u32 0, .int .u32 0] (by simp)).alloc _
  have hk0 : Holds (((w.alloc (.cells #[.int .u8 (s.s0.toNat : Int), .int .u8 (s.s1.toNat : Int), .int .u8 (s.s2.toNat : Int), .int .u8 (s.s3.toNat : Int), .int .u8 (s.s4.toNat : Int), .int .u8 (s.s5.toNat : Int), .int .u8 (s.s6.toNat : Int), .int .u8 (s.s7.toNat : Int)] 26)).alloc (.cells #[.int .u32 0, .int .u32 0, .int .u32 0, .int .u32 0, .int .u32 0, .int .u32 0, .int .u32 0, .int .u32 0] 28)).alloc (.cells #[.int .u32 0, .int .u32 0, .int .u32 0, .int .u32 0, .int .u32 0, .int .u32 0, .int .u32 0, .int .u32 0] 28)) (w.heap.size + 1 + 1) 28 (kwK l s 0).vals := Holds.newAt _ 28 [.int .u32 0, .int .u32 0, .int .u32 0, .int .u32 0, .int .u32 0, .int .u32 0, .int .u32 0, .int .u32 0] (by simp)
  have hb0 : Below w.heap.size w (((w.alloc (.cells #[.int .u8 (s.s0.toNat : Int), .int .u8 (s.s1.toNat : Int), .int .u8 (s.s2.toNat : Int), .int .u8 (s.s3.toNat : Int), .int .u8 (s.s4.toNat : Int), .int .u8 (s.s5.toNat : Int), .int .u8 (s.s6.toNat : Int), .int .u8 (s.s7.toNat : Int)] 26)).alloc (.cells #[.int .u32 0, .int .u32 0, .int .u32 0, .int .u32 0, .int .u32 0, .int .u32 0, .int .u32 0, .int .u32 0] 28)).alloc (.cells #[.int .u32 0, .int .u32 0, .int .u32 0, .int .u32 0, .int .u32 0, .int .u32 0, .int .u32 0, .int .u32 0] 28)) := (((Below.refl _ _).alloc (Nat.le_refl _) _).alloc (by simp) _).alloc (by simp; omega) _
  go_enter Try.func37, Try.ntmps37
  go_wp2_with fail
  refine wp_scope_back 0 (fun a' w' => ∃ m : Nat, (m ≤ n ∧ Holds w' (w.heap.size + 1) 28 [.int .u32 0, .int .u32 0, .int .u32 0, .int .u32 0, .int .u32 0, .int .u32 0, .int .u32 0, .int .u32 0] ∧ Holds w' (w.heap.size + 1 + 1) 28 (krun m (kwK l s 8)).vals ∧ Below w.heap.size w w') ∧ FrameIs (keyFr w n m) a') (fun a' _ => (n + 1 - intOf (a'.tmps.getD 10 undef)).toNat) rfl ?_ ?_
  · intro hp
    go_wp2_with fail
    go_loopw [23] (fun v wr => ∃ j : Nat, j ≤ 8 ∧ v = .int .i64 j ∧ Holds wr w.heap.size 26 [.int .u8 (s.s0.toNat : Int), .int .u8 (s.s1.toNat : Int), .int .u8 (s.s2.toNat : Int), .int .u8 (s.s3.toNat : Int), .int .u8 (s.s4.toNat : Int), .int .u8 (s.s5.toNat : Int), .int .u8 (s.s6.toNat : Int), .int .u8 (s.s7.toNat : Int)] ∧ Holds wr (w.heap.size + 1) 28 [.int .u32 0, .int .u32 0, .int .u32 0, .int .u32 0, .int .u32 0, .int .u32 0, .int .u32 0, .int .u32 0] ∧ Holds wr (w.heap.size + 1 + 1) 28 (kwK l s j).vals ∧ Below w.heap.size w wr) (fun v _ => 8 - (intOf v).toNat)
    case atStart => exact ⟨0, by omega, rfl, hs0, hz0, hk0, hb0⟩
    case round =>
      clear hs0 hz0 hk0 hb0
      obtain ⟨j, hj, rfl, hs, hz, hk, hb⟩ := hrel
      by_cases hlt : j < 8
      · obtain rfl | rfl | rfl | rfl | rfl | rfl | rfl | rfl : j = 0 ∨ j = 1 ∨ j = 2 ∨ j = 3 ∨ j = 4 ∨ j = 5 ∨ j = 6 ∨ j = 7 := by omega
        all_goals (go_wp2_with fail)
        · obtain ⟨z, hz9⟩ : ∃ z, Hid (z = sumW (BitVec.ofNat 32 (0 + 2)) (BitVec.ofNat 32 0) l) := ⟨_, rfl⟩
          have HS := Lib.hid (And.intro hs.drew (And.intro hz.drew (And.intro hb.drew hk.drew)))
          clear hs hz hb hk
          have hi1 : (IntKind.i64.wrap 1).tmod 8 = 1 := by decide
          have hu0 := u32_byte s.s0
          have hu1 := u32_byte s.s1
          have hor := bits_or_sw2 s.s0 s.s1
          refine wp_region_till 23 (fun w' => Holds w' w.heap.size 26 [.int .u8 (s.s0.toNat : Int), .int .u8 (s.s1.toNat : Int), .int .u8 (s.s2.toNat : Int), .int .u8 (s.s3.toNat : Int), .int .u8 (s.s4.toNat : Int), .int .u8 (s.s5.toNat : Int), .int .u8 (s.s6.toNat : Int), .int .u8 (s.s7.toNat : Int)] ∧ Holds w' (w.heap.size + 1) 28 [.int .u32 0, .int .u32 0, .int .u32 0, .int .u32 0, .int .u32 0, .int .u32 0, .int .u32 0, .int .u32 0] ∧ Below w.heap.size w w') (fun w' => Holds w' (w.heap.size + 1 + 1) 28 (kwK l s 0).vals) (by kernel_rfl) (⟨HS.out.1, HS.out.2.1, HS.out.2.2.1⟩) (HS.out.2.2.2) ?_
          show Go_ _ _ _ _ _ _ _ _ _ _ (World.drew _)
          refine Go_.take (i := 0) (oi := ⟨some 26, Op.move (Operand.tmp 9), 3, _, _, none⟩) (v := ?_) rfl (by kernel_rfl) (by kernel_rfl) (by kernel_rfl) rfl (fun _ _ _ h => h) (Or.inl ⟨by rfl, ?_⟩) ?_
          rotate_left; · intro w0 _; go_simp; try with_reducible rfl
          try simp only [Act.put, List.setIfInBounds_toArray, List.set_cons_zero, List.set_cons_succ]
          refine Go_.take (i := 1) (oi := ⟨some 27, Op.move (Operand.tmp 9), 3, _, _, none⟩) (v := ?_) rfl (by kernel_rfl) (by kernel_rfl) (by kernel_rfl) rfl (fun _ _ _ h => h) (Or.inl ⟨by rfl, ?_⟩) ?_
          rotate_left; · intro w0 _; go_simp; try with_reducible rfl
          try simp only [Act.put, List.setIfInBounds_toArray, List.set_cons_zero, List.set_cons_succ]
          refine Go_.take (i := 2) (oi := ⟨some 28, Op.convert 3 22 (Operand.tmp 27), 22, _, _, none⟩) (v := ?_) rfl (by kernel_rfl) (by kernel_rfl) (by kernel_rfl) rfl (fun _ _ _ h => h) (Or.inl ⟨by rfl, ?_⟩) ?_
          rotate_left; · intro w0 hS; obtain ⟨hS, hzz, hW⟩ := hS; have h8 := hS.eight; go_simp; try with_reducible rfl
          try simp only [Act.put, List.setIfInBounds_toArray, List.set_cons_zero, List.set_cons_succ]
          refine Go_.take (i := 3) (oi := ⟨some 29, Op.binOp BinOp.add 22 (Operand.tmp 28) (Operand.const (Value.int IntKind.u32 2)) 22, 22, _, _, none⟩) (v := ?_) rfl (by kernel_rfl) (by kernel_rfl) (by kernel_rfl) rfl (fun _ _ _ h => h) (Or.inl ⟨by rfl, ?_⟩) ?_
          rotate_left; · intro w0 _; go_simp; try with_reducible rfl
          try simp only [Act.put, List.setIfInBounds_toArray, List.set_cons_zero, List.set_cons_succ]
          refine Go_.take (i := 4) (oi := ⟨some 30, Op.move (Operand.tmp 9), 3, _, _, none⟩) (v := ?_) rfl (by kernel_rfl) (by kernel_rfl) (by kernel_rfl) rfl (fun _ _ _ h => h) (Or.inl ⟨by rfl, ?_⟩) ?_
          rotate_left; · intro w0 _; go_simp; try with_reducible rfl
          try simp only [Act.put, List.setIfInBounds_toArray, List.set_cons_zero, List.set_cons_succ]
          refine Go_.take (i := 5) (oi := ⟨some 31, Op.convert 3 22 (Operand.tmp 30), 22, _, _, none⟩) (v := ?_) rfl (by kernel_rfl) (by kernel_rfl) (by kernel_rfl) rfl (fun _ _ _ h => h) (Or.inl ⟨by rfl, ?_⟩) ?_
          rotate_left; · intro w0 hS; obtain ⟨hS, hzz, hW⟩ := hS; have h8 := hS.eight; go_simp; try with_reducible rfl
          try simp only [Act.put, List.setIfInBounds_toArray, List.set_cons_zero, List.set_cons_succ]
          refine Go_.take (i := 6) (oi := ⟨some 32, Op.move (Operand.tmp 0), 9, _, _, none⟩) (v := ?_) rfl (by kernel_rfl) (by kernel_rfl) (by kernel_rfl) rfl (fun _ _ _ h => h) (Or.inl ⟨by rfl, ?_⟩) ?_
          rotate_left; · intro w0 _; go_simp; try with_reducible rfl
          try simp only [Act.put, List.setIfInBounds_toArray, List.set_cons_zero, List.set_cons_succ]
          refine Go_.take (i := 9) (oi := ⟨some 35, Op.move (Operand.tmp 9), 3, _, _, none⟩) (v := ?_) rfl (by kernel_rfl) (by kernel_rfl) (by kernel_rfl) rfl (fun _ _ _ h => h) (Or.inl ⟨by rfl, ?_⟩) ?_
          rotate_left; · intro w0 _; go_simp; try with_reducible rfl
          try simp only [Act.put, List.setIfInBounds_toArray, List.set_cons_zero, List.set_cons_succ]
          refine Go_.take (i := 10) (oi := ⟨some 36, Op.indexAddr 26 (Operand.tmp 4) (Operand.tmp 35), 0, _, _, none⟩) (v := ?_) rfl (by kernel_rfl) (by kernel_rfl) (by kernel_rfl) rfl (fun _ _ _ h => h) (Or.inl ⟨by rfl, ?_⟩) ?_
          rotate_left; · intro w0 _; go_simp; try with_reducible rfl
          try simp only [Act.put, List.setIfInBounds_toArray, List.set_cons_zero, List.set_cons_succ]
          refine Go_.take (i := 11) (oi := ⟨some 37, Op.load 5 (Operand.tmp 36), 5, _, _, none⟩) (v := ?_) rfl (by kernel_rfl) (by kernel_rfl) (by kernel_rfl) rfl (fun _ _ _ h => h) (Or.inl ⟨by rfl, ?_⟩) ?_
          rotate_left; · intro w0 hS; obtain ⟨hS, hzz, hW⟩ := hS; have h8 := hS.eight; go_simp; try with_reducible rfl
          try simp only [Act.put, List.setIfInBounds_toArray, List.set_cons_zero, List.set_cons_succ]
          refine Go_.take (i := 12) (oi := ⟨some 38, Op.convert 5 22 (Operand.tmp 37), 22, _, _, none⟩) (v := ?_) rfl (by kernel_rfl) (by kernel_rfl) (by kernel_rfl) rfl (fun _ _ _ h => h) (Or.inl ⟨by rfl, ?_⟩) ?_
          rotate_left; · intro w0 hS; obtain ⟨hS, hzz, hW⟩ := hS; have h8 := hS.eight; go_simp; try with_reducible rfl
          try simp only [Act.put, List.setIfInBounds_toArray, List.set_cons_zero, List.set_cons_succ]
          refine Go_.take (i := 13) (oi := ⟨some 39, Op.move (Operand.tmp 9), 3, _, _, none⟩) (v := ?_) rfl (by kernel_rfl) (by kernel_rfl) (by kernel_rfl) rfl (fun _ _ _ h => h) (Or.inl ⟨by rfl, ?_⟩) ?_
          rotate_left; · intro w0 _; go_simp; try with_reducible rfl
          try simp only [Act.put, List.setIfInBounds_toArray, List.set_cons_zero, List.set_cons_succ]
          refine Go_.take (i := 14) (oi := ⟨some 40, Op.binOp BinOp.add 3 (Operand.tmp 39) (Operand.const (Value.int IntKind.i64 1)) 3, 3, _, _, none⟩) (v := ?_) rfl (by kernel_rfl) (by kernel_rfl) (by kernel_rfl) rfl (fun _ _ _ h => h) (Or.inl ⟨by rfl, ?_⟩) ?_
          rotate_left; · intro w0 _; go_simp; try with_reducible rfl
          try simp only [Act.put, List.setIfInBounds_toArray, List.set_cons_zero, List.set_cons_succ]
          refine Go_.take (i := 15) (oi := ⟨some 41, Op.binOp BinOp.rem 3 (Operand.tmp 40) (Operand.const (Value.int IntKind.i64 8)) 3, 3, _, _, none⟩) (v := ?_) rfl (by kernel_rfl) (by kernel_rfl) (by kernel_rfl) rfl (fun _ _ _ h => h) (Or.inl ⟨by rfl, ?_⟩) ?_
          rotate_left; · intro w0 _; go_simp; try with_reducible rfl
          try simp only [Act.put, List.setIfInBounds_toArray, List.set_cons_zero, List.set_cons_succ]
          refine Go_.take (i := 16) (oi := ⟨some 42, Op.indexAddr 26 (Operand.tmp 4) (Operand.tmp 41), 0, _, _, none⟩) (v := ?_) rfl (by kernel_rfl) (by kernel_rfl) (by kernel_rfl) rfl (fun _ _ _ h => h) (Or.inl ⟨by rfl, ?_⟩) ?_
          rotate_left; · intro w0 _; go_simp; try with_reducible rfl
          try simp only [Act.put, List.setIfInBounds_toArray, List.set_cons_zero, List.set_cons_succ]
          refine Go_.take (i := 17) (oi := ⟨some 43, Op.load 5 (Operand.tmp 42), 5, _, _, none⟩) (v := ?_) rfl (by kernel_rfl) (by kernel_rfl) (by kernel_rfl) rfl (fun _ _ _ h => h) (Or.inl ⟨by rfl, ?_⟩) ?_
          rotate_left; · intro w0 hS; obtain ⟨hS, hzz, hW⟩ := hS; have h8 := hS.eight; go_simp; try with_reducible rfl
          try simp only [Act.put, List.setIfInBounds_toArray, List.set_cons_zero, List.set_cons_succ]
          refine Go_.take (i := 18) (oi := ⟨some 44, Op.convert 5 22 (Operand.tmp 43), 22, _, _, none⟩) (v := ?_) rfl (by kernel_rfl) (by kernel_rfl) (by kernel_rfl) rfl (fun _ _ _ h => h) (Or.inl ⟨by rfl, ?_⟩) ?_
          rotate_left; · intro w0 hS; obtain ⟨hS, hzz, hW⟩ := hS; have h8 := hS.eight; go_simp; try with_reducible rfl
          try simp only [Act.put, List.setIfInBounds_toArray, List.set_cons_zero, List.set_cons_succ]
          refine Go_.take (i := 19) (oi := ⟨some 45, Op.binOp BinOp.shl 22 (Operand.tmp 44) (Operand.const (Value.int IntKind.u64 8)) 35, 22, _, _, none⟩) (v := ?_) rfl (by kernel_rfl) (by kernel_rfl) (by kernel_rfl) rfl (fun _ _ _ h => h) (Or.inl ⟨by rfl, ?_⟩) ?_
          rotate_left; · intro w0 _; go_simp; try with_reducible rfl
          try simp only [Act.put, List.setIfInBounds_toArray, List.set_cons_zero, List.set_cons_succ]
          refine Go_.take (i := 20) (oi := ⟨some 46, Op.binOp BinOp.or 22 (Operand.tmp 38) (Operand.tmp 45) 22, 22, _, _, none⟩) (v := ?_) rfl (by kernel_rfl) (by kernel_rfl) (by kernel_rfl) rfl (fun _ _ _ h => h) (Or.inl ⟨by rfl, ?_⟩) ?_
          rotate_left; · intro w0 _; go_simp; try with_reducible rfl
          try simp only [Act.put, List.setIfInBounds_toArray, List.set_cons_zero, List.set_cons_succ]
          refine Go_.step (i := 7) (o := ⟨some 33, Op.convert 9 24 (Operand.tmp 32), 24, _, _, none⟩) (by kernel_rfl) rfl (fun K hT hK => ?_)
          rw [if_pos (by rfl)]
          refine wp_bts (.tmp 32) rfl (by rfl) ?_
          intro c7 w7 hB7 hb7
          refine hK.out _ _ (Till.both ⟨hT.1.1.below hb7 hT.1.1.lt, hT.1.2.1.below hb7 hT.1.2.1.lt, hT.1.2.2.trans (hb7.mono hT.1.2.2.size)⟩ ((hT.2 rfl).below hb7 (hT.2 rfl).lt)) ?_
          clear hT hK K
          refine Go_.step (i := 8) (o := ⟨some 34, Op.call { callee := Callee.value (Operand.func 26), args := #[Operand.tmp 29, Operand.tmp 31, Operand.tmp 33], argTypes := #[22, 22, 24] }, 22, _, _, none⟩) (by kernel_rfl) rfl (fun K hT hK => ?_)
          rw [if_pos (by rfl)]
          go_simp
          refine (key_sum (BitVec.ofNat 32 (0 + 2)) (BitVec.ofNat 32 0) z l hz9 _ _ rfl rfl _ _ _ hl hB7).mono ?_
          rintro e w8 ⟨rfl, rfl⟩
          refine hK.out _ _ (Till.both hT.1 (hT.2 rfl)) ?_
          clear hT hK K
          refine Go_.take (i := 21) (oi := ⟨some 47, Op.binOp BinOp.xor 22 (Operand.tmp 34) (Operand.tmp 46) 22, 22, _, _, none⟩) (v := ?_) rfl (by kernel_rfl) (by kernel_rfl) (by kernel_rfl) rfl (fun _ _ _ h => h) (Or.inl ⟨by rfl, ?_⟩) ?_
          rotate_left; · intro w0 _; go_simp; try with_reducible rfl
          try simp only [Act.put, List.setIfInBounds_toArray, List.set_cons_zero, List.set_cons_succ]
          refine Go_.take (i := 22) (oi := ⟨some 48, Op.indexAddr 28 (Operand.tmp 8) (Operand.tmp 26), 0, _, _, none⟩) (v := ?_) rfl (by kernel_rfl) (by kernel_rfl) (by kernel_rfl) rfl (fun _ _ _ h => h) (Or.inl ⟨by rfl, ?_⟩) ?_
          rotate_left; · intro w0 _; go_simp; try with_reducible rfl
          try simp only [Act.put, List.setIfInBounds_toArray, List.set_cons_zero, List.set_cons_succ]
          refine Go_.step (i := 23) (o := ⟨none, Op.store 22 (Operand.tmp 48) (Operand.tmp 47), 0, _, _, none⟩) (by kernel_rfl) rfl (fun K hT hK => ?_)
          rw [if_pos (by rfl)]
          have h8 := (hT.2 rfl).eight
          have hf := (hT.2 rfl).eightFree
          have hk2 := (hT.2 rfl).set 0 (.int .u32 (W (z ^^^ sw s.s0 s.s1)))
          go_simp
          have hA2 := And.intro (hT.1.1.far (p := ⟨w.heap.size + 1 + 1, 0, none⟩) (by show w.heap.size ≠ w.heap.size + 1 + 1; omega) (.int .u32 (W (z ^^^ sw s.s0 s.s1)))) (And.intro (hT.1.2.1.far (p := ⟨w.heap.size + 1 + 1, 0, none⟩) (by show w.heap.size + 1 ≠ w.heap.size + 1 + 1; omega) (.int .u32 (W (z ^^^ sw s.s0 s.s1)))) (hT.1.2.2.setCell (p := ⟨w.heap.size + 1 + 1, 0, none⟩) (by show w.heap.size ≤ w.heap.size + 1 + 1; omega) (.int .u32 (W (z ^^^ sw s.s0 s.s1)))))
          refine hK.out _ _ (Till.late rfl hA2) ?_
          clear hT hK K
          refine Go_.done (by kernel_rfl) ?_
          have HK := Lib.hid (And.intro hk2 hA2)
          clear hk2 hA2 HS hB7 hb7
          go_wp2_with fail
          go_round
          case rel => exact ⟨1, by omega, by go_num, HK.out.2.1, HK.out.2.2.1, (by have e : (kwK l s 0).vals.set 0 (.int .u32 (W (z ^^^ sw s.s0 s.s1))) = (kwK l s 1).vals := (by rw [hz9.out]; rfl) ; exact e ▸ HK.out.1), HK.out.2.2.2⟩
          case measure => simp [intOf]
        · obtain ⟨z, hz9⟩ : ∃ z, Hid (z = sumW (BitVec.ofNat 32 (1 + 2)) (BitVec.ofNat 32 1) l) := ⟨_, rfl⟩
          have HS := Lib.hid (And.intro hs.drew (And.intro hz.drew (And.intro hb.drew hk.drew)))
          clear hs hz hb hk
          have hi1 : (IntKind.i64.wrap 2).tmod 8 = 2 := by decide
          have hu0 := u32_byte s.s1
          have hu1 := u32_byte s.s2
          have hor := bits_or_sw2 s.s1 s.s2
          refine wp_region_till 23 (fun w' => Holds w' w.heap.size 26 [.int .u8 (s.s0.toNat : Int), .int .u8 (s.s1.toNat : Int), .int .u8 (s.s2.toNat : Int), .int .u8 (s.s3.toNat : Int), .int .u8 (s.s4.toNat : Int), .int .u8 (s.s5.toNat : Int), .int .u8 (s.s6.toNat : Int), .int .u8 (s.s7.toNat : Int)] ∧ Holds w' (w.heap.size + 1) 28 [.int .u32 0, .int .u32 0, .int .u32 0, .int .u32 0, .int .u32 0, .int .u32 0, .int .u32 0, .int .u32 0] ∧ Below w.heap.size w w') (fun w' => Holds w' (w.heap.size + 1 + 1) 28 (kwK l s 1).vals) (by kernel_rfl) (⟨HS.out.1, HS.out.2.1, HS.out.2.2.1⟩) (HS.out.2.2.2) ?_
          show Go_ _ _ _ _ _ _ _ _ _ _ (World.drew _)
          refine Go_.take (i := 0) (oi := ⟨some 26, Op.move (Operand.tmp 9), 3, _, _, none⟩) (v := ?_) rfl (by kernel_rfl) (by kernel_rfl) (by kernel_rfl) rfl (fun _ _ _ h => h) (Or.inl ⟨by rfl, ?_⟩) ?_
          rotate_left; · intro w0 _; go_simp; try with_reducible rfl
          try simp only [Act.put, List.setIfInBounds_toArray, List.set_cons_zero, List.set_cons_succ]
          refine Go_.take (i := 1) (oi := ⟨some 27, Op.move (Operand.tmp 9), 3, _, _, none⟩) (v := ?_) rfl (by kernel_rfl) (by kernel_rfl) (by kernel_rfl) rfl (fun _ _ _ h => h) (Or.inl ⟨by rfl, ?_⟩) ?_
          rotate_left; · intro w0 _; go_simp; try with_reducible rfl
          try simp only [Act.put, List.setIfInBounds_toArray, List.set_cons_zero, List.set_cons_succ]
          refine Go_.take (i := 2) (oi := ⟨some 28, Op.convert 3 22 (Operand.tmp 27), 22, _, _, none⟩) (v := ?_) rfl (by kernel_rfl) (by kernel_rfl) (by kernel_rfl) rfl (fun _ _ _ h => h) (Or.inl ⟨by rfl, ?_⟩) ?_
          rotate_left; · intro w0 hS; obtain ⟨hS, hzz, hW⟩ := hS; have h8 := hS.eight; go_simp; try with_reducible rfl
          try simp only [Act.put, List.setIfInBounds_toArray, List.set_cons_zero, List.set_cons_succ]
          refine Go_.take (i := 3) (oi := ⟨some 29, Op.binOp BinOp.add 22 (Operand.tmp 28) (Operand.const (Value.int IntKind.u32 2)) 22, 22, _, _, none⟩) (v := ?_) rfl (by kernel_rfl) (by kernel_rfl) (by kernel_rfl) rfl (fun _ _ _ h => h) (Or.inl ⟨by rfl, ?_⟩) ?_
          rotate_left; · intro w0 _; go_simp; try with_reducible rfl
          try simp only [Act.put, List.setIfInBounds_toArray, List.set_cons_zero, List.set_cons_succ]
          refine Go_.take (i := 4) (oi := ⟨some 30, Op.move (Operand.tmp 9), 3, _, _, none⟩) (v := ?_) rfl (by kernel_rfl) (by kernel_rfl) (by kernel_rfl) rfl (fun _ _ _ h => h) (Or.inl ⟨by rfl, ?_⟩) ?_
          rotate_left; · intro w0 _; go_simp; try with_reducible rfl
          try simp only [Act.put, List.setIfInBounds_toArray, List.set_cons_zero, List.set_cons_succ]
          refine Go_.take (i := 5) (oi := ⟨some 31, Op.convert 3 22 (Operand.tmp 30), 22, _, _, none⟩) (v := ?_) rfl (by kernel_rfl) (by kernel_rfl) (by kernel_rfl) rfl (fun _ _ _ h => h) (Or.inl ⟨by rfl, ?_⟩) ?_
          rotate_left; · intro w0 hS; obtain ⟨hS, hzz, hW⟩ := hS; have h8 := hS.eight; go_simp; try with_reducible rfl
          try simp only [Act.put, List.setIfInBounds_toArray, List.set_cons_zero, List.set_cons_succ]
          refine Go_.take (i := 6) (oi := ⟨some 32, Op.move (Operand.tmp 0), 9, _, _, none⟩) (v := ?_) rfl (by kernel_rfl) (by kernel_rfl) (by kernel_rfl) rfl (fun _ _ _ h => h) (Or.inl ⟨by rfl, ?_⟩) ?_
          rotate_left; · intro w0 _; go_simp; try with_reducible rfl
          try simp only [Act.put, List.setIfInBounds_toArray, List.set_cons_zero, List.set_cons_succ]
          refine Go_.take (i := 9) (oi := ⟨some 35, Op.move (Operand.tmp 9), 3, _, _, none⟩) (v := ?_) rfl (by kernel_rfl) (by kernel_rfl) (by kernel_rfl) rfl (fun _ _ _ h => h) (Or.inl ⟨by rfl, ?_⟩) ?_
          rotate_left; · intro w0 _; go_simp; try with_reducible rfl
          try simp only [Act.put, List.setIfInBounds_toArray, List.set_cons_zero, List.set_cons_succ]
          refine Go_.take (i := 10) (oi := ⟨some 36, Op.indexAddr 26 (Operand.tmp 4) (Operand.tmp 35), 0, _, _, none⟩) (v := ?_) rfl (by kernel_rfl) (by kernel_rfl) (by kernel_rfl) rfl (fun _ _ _ h => h) (Or.inl ⟨by rfl, ?_⟩) ?_
          rotate_left; · intro w0 _; go_simp; try with_reducible rfl
          try simp only [Act.put, List.setIfInBounds_toArray, List.set_cons_zero, List.set_cons_succ]
          refine Go_.take (i := 11) (oi := ⟨some 37, Op.load 5 (Operand.tmp 36), 5, _, _, none⟩) (v := ?_) rfl (by kernel_rfl) (by kernel_rfl) (by kernel_rfl) rfl (fun _ _ _ h => h) (Or.inl ⟨by rfl, ?_⟩) ?_
          rotate_left; · intro w0 hS; obtain ⟨hS, hzz, hW⟩ := hS; have h8 := hS.eight; go_simp; try with_reducible rfl
          try simp only [Act.put, List.setIfInBounds_toArray, List.set_cons_zero, List.set_cons_succ]
          refine Go_.take (i := 12) (oi := ⟨some 38, Op.convert 5 22 (Operand.tmp 37), 22, _, _, none⟩) (v := ?_) rfl (by kernel_rfl) (by kernel_rfl) (by kernel_rfl) rfl (fun _ _ _ h => h) (Or.inl ⟨by rfl, ?_⟩) ?_
          rotate_left; · intro w0 hS; obtain ⟨hS, hzz, hW⟩ := hS; have h8 := hS.eight; go_simp; try with_reducible rfl
          try simp only [Act.put, List.setIfInBounds_toArray, List.set_cons_zero, List.set_cons_succ]
          refine Go_.take (i := 13) (oi := ⟨some 39, Op.move (Operand.tmp 9), 3, _, _, none⟩) (v := ?_) rfl (by kernel_rfl) (by kernel_rfl) (by kernel_rfl) rfl (fun _ _ _ h => h) (Or.inl ⟨by rfl, ?_⟩) ?_
          rotate_left; · intro w0 _; go_simp; try with_reducible rfl
          try simp only [Act.put, List.setIfInBounds_toArray, List.set_cons_zero, List.set_cons_succ]
          refine Go_.take (i := 14) (oi := ⟨some 40, Op.binOp BinOp.add 3 (Operand.tmp 39) (Operand.const (Value.int IntKind.i64 1)) 3, 3, _, _, none⟩) (v := ?_) rfl (by kernel_rfl) (by kernel_rfl) (by kernel_rfl) rfl (fun _ _ _ h => h) (Or.inl ⟨by rfl, ?_⟩) ?_
          rotate_left; · intro w0 _; go_simp; try with_reducible rfl
          try simp only [Act.put, List.setIfInBounds_toArray, List.set_cons_zero, List.set_cons_succ]
          refine Go_.take (i := 15) (oi := ⟨some 41, Op.binOp BinOp.rem 3 (Operand.tmp 40) (Operand.const (Value.int IntKind.i64 8)) 3, 3, _, _, none⟩) (v := ?_) rfl (by kernel_rfl) (by kernel_rfl) (by kernel_rfl) rfl (fun _ _ _ h => h) (Or.inl ⟨by rfl, ?_⟩) ?_
          rotate_left; · intro w0 _; go_simp; try with_reducible rfl
          try simp only [Act.put, List.setIfInBounds_toArray, List.set_cons_zero, List.set_cons_succ]
          refine Go_.take (i := 16) (oi := ⟨some 42, Op.indexAddr 26 (Operand.tmp 4) (Operand.tmp 41), 0, _, _, none⟩) (v := ?_) rfl (by kernel_rfl) (by kernel_rfl) (by kernel_rfl) rfl (fun _ _ _ h => h) (Or.inl ⟨by rfl, ?_⟩) ?_
          rotate_left; · intro w0 _; go_simp; try with_reducible rfl
          try simp only [Act.put, List.setIfInBounds_toArray, List.set_cons_zero, List.set_cons_succ]
          refine Go_.take (i := 17) (oi := ⟨some 43, Op.load 5 (Operand.tmp 42), 5, _, _, none⟩) (v := ?_) rfl (by kernel_rfl) (by kernel_rfl) (by kernel_rfl) rfl (fun _ _ _ h => h) (Or.inl ⟨by rfl, ?_⟩) ?_
          rotate_left; · intro w0 hS; obtain ⟨hS, hzz, hW⟩ := hS; have h8 := hS.eight; go_simp; try with_reducible rfl
          try simp only [Act.put, List.setIfInBounds_toArray, List.set_cons_zero, List.set_cons_succ]
          refine Go_.take (i := 18) (oi := ⟨some 44, Op.convert 5 22 (Operand.tmp 43), 22, _, _, none⟩) (v := ?_) rfl (by kernel_rfl) (by kernel_rfl) (by kernel_rfl) rfl (fun _ _ _ h => h) (Or.inl ⟨by rfl, ?_⟩) ?_
          rotate_left; · intro w0 hS; obtain ⟨hS, hzz, hW⟩ := hS; have h8 := hS.eight; go_simp; try with_reducible rfl
          try simp only [Act.put, List.setIfInBounds_toArray, List.set_cons_zero, List.set_cons_succ]
          refine Go_.take (i := 19) (oi := ⟨some 45, Op.binOp BinOp.shl 22 (Operand.tmp 44) (Operand.const (Value.int IntKind.u64 8)) 35, 22, _, _, none⟩) (v := ?_) rfl (by kernel_rfl) (by kernel_rfl) (by kernel_rfl) rfl (fun _ _ _ h => h) (Or.inl ⟨by rfl, ?_⟩) ?_
          rotate_left; · intro w0 _; go_simp; try with_reducible rfl
          try simp only [Act.put, List.setIfInBounds_toArray, List.set_cons_zero, List.set_cons_succ]
          refine Go_.take (i := 20) (oi := ⟨some 46, Op.binOp BinOp.or 22 (Operand.tmp 38) (Operand.tmp 45) 22, 22, _, _, none⟩) (v := ?_) rfl (by kernel_rfl) (by kernel_rfl) (by kernel_rfl) rfl (fun _ _ _ h => h) (Or.inl ⟨by rfl, ?_⟩) ?_
          rotate_left; · intro w0 _; go_simp; try with_reducible rfl
          try simp only [Act.put, List.setIfInBounds_toArray, List.set_cons_zero, List.set_cons_succ]
          refine Go_.step (i := 7) (o := ⟨some 33, Op.convert 9 24 (Operand.tmp 32), 24, _, _, none⟩) (by kernel_rfl) rfl (fun K hT hK => ?_)
          rw [if_pos (by rfl)]
          refine wp_bts (.tmp 32) rfl (by rfl) ?_
          intro c7 w7 hB7 hb7
          refine hK.out _ _ (Till.both ⟨hT.1.1.below hb7 hT.1.1.lt, hT.1.2.1.below hb7 hT.1.2.1.lt, hT.1.2.2.trans (hb7.mono hT.1.2.2.size)⟩ ((hT.2 rfl).below hb7 (hT.2 rfl).lt)) ?_
          clear hT hK K
          refine Go_.step (i := 8) (o := ⟨some 34, Op.call { callee := Callee.value (Operand.func 26), args := #[Operand.tmp 29, Operand.tmp 31, Operand.tmp 33], argTypes := #[22, 22, 24] }, 22, _, _, none⟩) (by kernel_rfl) rfl (fun K hT hK => ?_)
          rw [if_pos (by rfl)]
          go_simp
          refine (key_sum (BitVec.ofNat 32 (1 + 2)) (BitVec.ofNat 32 1) z l hz9 _ _ rfl rfl _ _ _ hl hB7).mono ?_
          rintro e w8 ⟨rfl, rfl⟩
          refine hK.out _ _ (Till.both hT.1 (hT.2 rfl)) ?_
          clear hT hK K
          refine Go_.take (i := 21) (oi := ⟨some 47, Op.binOp BinOp.xor 22 (Operand.tmp 34) (Operand.tmp 46) 22, 22, _, _, none⟩) (v := ?_) rfl (by kernel_rfl) (by kernel_rfl) (by kernel_rfl) rfl (fun _ _ _ h => h) (Or.inl ⟨by rfl, ?_⟩) ?_
          rotate_left; · intro w0 _; go_simp; try with_reducible rfl
          try simp only [Act.put, List.setIfInBounds_toArray, List.set_cons_zero, List.set_cons_succ]
          refine Go_.take (i := 22) (oi := ⟨some 48, Op.indexAddr 28 (Operand.tmp 8) (Operand.tmp 26), 0, _, _, none⟩) (v := ?_) rfl (by kernel_rfl) (by kernel_rfl) (by kernel_rfl) rfl (fun _ _ _ h => h) (Or.inl ⟨by rfl, ?_⟩) ?_
          rotate_left; · intro w0 _; go_simp; try with_reducible rfl
          try simp only [Act.put, List.setIfInBounds_toArray, List.set_cons_zero, List.set_cons_succ]
          refine Go_.step (i := 23) (o := ⟨none, Op.store 22 (Operand.tmp 48) (Operand.tmp 47), 0, _, _, none⟩) (by kernel_rfl) rfl (fun K hT hK => ?_)
          rw [if_pos (by rfl)]
          have h8 := (hT.2 rfl).eight
          have hf := (hT.2 rfl).eightFree
          have hk2 := (hT.2 rfl).set 1 (.int .u32 (W (z ^^^ sw s.s1 s.s2)))
          go_simp
          have hA2 := And.intro (hT.1.1.far (p := ⟨w.heap.size + 1 + 1, 1, none⟩) (by show w.heap.size ≠ w.heap.size + 1 + 1; omega) (.int .u32 (W (z ^^^ sw s.s1 s.s2)))) (And.intro (hT.1.2.1.far (p := ⟨w.heap.size + 1 + 1, 1, none⟩) (by show w.heap.size + 1 ≠ w.heap.size + 1 + 1; omega) (.int .u32 (W (z ^^^ sw s.s1 s.s2)))) (hT.1.2.2.setCell (p := ⟨w.heap.size + 1 + 1, 1, none⟩) (by show w.heap.size ≤ w.heap.size + 1 + 1; omega) (.int .u32 (W (z ^^^ sw s.s1 s.s2)))))
          refine hK.out _ _ (Till.late rfl hA2) ?_
          clear hT hK K
          refine Go_.done (by kernel_rfl) ?_
          have HK := Lib.hid (And.intro hk2 hA2)
          clear hk2 hA2 HS hB7 hb7
          go_wp2_with fail
          go_round
          case rel => exact ⟨2, by omega, by go_num, HK.out.2.1, HK.out.2.2.1, (by have e : (kwK l s 1).vals.set 1 (.int .u32 (W (z ^^^ sw s.s1 s.s2))) = (kwK l s 2).vals := (by rw [hz9.out]; rfl) ; exact e ▸ HK.out.1), HK.out.2.2.2⟩
          case measure => simp [intOf]
        · obtain ⟨z, hz9⟩ : ∃ z, Hid (z = sumW (BitVec.ofNat 32 (2 + 2)) (BitVec.ofNat 32 2) l) := ⟨_, rfl⟩
          have HS := Lib.hid (And.intro hs.drew (And.intro hz.drew (And.intro hb.drew hk.drew)))
          clear hs hz hb hk
          have hi1 : (IntKind.i64.wrap 3).tmod 8 = 3 := by decide
          have hu0 := u32_byte s.s2
          have hu1 := u32_byte s.s3
          have hor := bits_or_sw2 s.s2 s.s3
          refine wp_region_till 23 (fun w' => Holds w' w.heap.size 26 [.int .u8 (s.s0.toNat : Int), .int .u8 (s.s1.toNat : Int), .int .u8 (s.s2.toNat : Int), .int .u8 (s.s3.toNat : Int), .int .u8 (s.s4.toNat : Int), .int .u8 (s.s5.toNat : Int), .int .u8 (s.s6.toNat : Int), .int .u8 (s.s7.toNat : Int)] ∧ Holds w' (w.heap.size + 1) 28 [.int .u32 0, .int .u32 0, .int .u32 0, .int .u32 0, .int .u32 0, .int .u32 0, .int .u32 0, .int .u32 0] ∧ Below w.heap.size w w') (fun w' => Holds w' (w.heap.size + 1 + 1) 28 (kwK l s 2).vals) (by kernel_rfl) (⟨HS.out.1, HS.out.2.1, HS.out.2.2.1⟩) (HS.out.2.2.2) ?_
          show Go_ _ _ _ _ _ _ _ _ _ _ (World.drew _)
          refine Go_.take (i := 0) (oi := ⟨some 26, Op.move (Operand.tmp 9), 3, _, _, none⟩) (v := ?_) rfl (by kernel_rfl) (by kernel_rfl) (by kernel_rfl) rfl (fun _ _ _ h => h) (Or.inl ⟨by rfl, ?_⟩) ?_
          rotate_left; · intro w0 _; go_simp; try with_reducible rfl
          try simp only [Act.put, List.setIfInBounds_toArray, List.set_cons_zero, List.set_cons_succ]
          refine Go_.take (i := 1) (oi := ⟨some 27, Op.move (Operand.tmp 9), 3, _, _, none⟩) (v := ?_) rfl (by kernel_rfl) (by kernel_rfl) (by kernel_rfl) rfl (fun _ _ _ h => h) (Or.inl ⟨by rfl, ?_⟩) ?_
          rotate_left; · intro w0 _; go_simp; try with_reducible rfl
          try simp only [Act.put, List.setIfInBounds_toArray, List.set_cons_zero, List.set_cons_succ]
          refine Go_.take (i := 2) (oi := ⟨some 28, Op.convert 3 22 (Operand.tmp 27), 22, _, _, none⟩) (v := ?_) rfl (by kernel_rfl) (by kernel_rfl) (by kernel_rfl) rfl (fun _ _ _ h => h) (Or.inl ⟨by rfl, ?_⟩) ?_
          rotate_left; · intro w0 hS; obtain ⟨hS, hzz, hW⟩ := hS; have h8 := hS.eight; go_simp; try with_reducible rfl
          try simp only [Act.put, List.setIfInBounds_toArray, List.set_cons_zero, List.set_cons_succ]
          refine Go_.take (i := 3) (oi := ⟨some 29, Op.binOp BinOp.add 22 (Operand.tmp 28) (Operand.const (Value.int IntKind.u32 2)) 22, 22, _, _, none⟩) (v := ?_) rfl (by kernel_rfl) (by kernel_rfl) (by kernel_rfl) rfl (fun _ _ _ h => h) (Or.inl ⟨by rfl, ?_⟩) ?_
          rotate_left; · intro w0 _; go_simp; try with_reducible rfl
          try simp only [Act.put, List.setIfInBounds_toArray, List.set_cons_zero, List.set_cons_succ]
          refine Go_.take (i := 4) (oi := ⟨some 30, Op.move (Operand.tmp 9), 3, _, _, none⟩) (v := ?_) rfl (by kernel_rfl) (by kernel_rfl) (by kernel_rfl) rfl (fun _ _ _ h => h) (Or.inl ⟨by rfl, ?_⟩) ?_
          rotate_left; · intro w0 _; go_simp; try with_reducible rfl
          try simp only [Act.put, List.setIfInBounds_toArray, List.set_cons_zero, List.set_cons_succ]
          refine Go_.take (i := 5) (oi := ⟨some 31, Op.convert 3 22 (Operand.tmp 30), 22, _, _, none⟩) (v := ?_) rfl (by kernel_rfl) (by kernel_rfl) (by kernel_rfl) rfl (fun _ _ _ h => h) (Or.inl ⟨by rfl, ?_⟩) ?_
          rotate_left; · intro w0 hS; obtain ⟨hS, hzz, hW⟩ := hS; have h8 := hS.eight; go_simp; try with_reducible rfl
          try simp only [Act.put, List.setIfInBounds_toArray, List.set_cons_zero, List.set_cons_succ]
          refine Go_.take (i := 6) (oi := ⟨some 32, Op.move (Operand.tmp 0), 9, _, _, none⟩) (v := ?_) rfl (by kernel_rfl) (by kernel_rfl) (by kernel_rfl) rfl (fun _ _ _ h => h) (Or.inl ⟨by rfl, ?_⟩) ?_
          rotate_left; · intro w0 _; go_simp; try with_reducible rfl
          try simp only [Act.put, List.setIfInBounds_toArray, List.set_cons_zero, List.set_cons_succ]
          refine Go_.take (i := 9) (oi := ⟨some 35, Op.move (Operand.tmp 9), 3, _, _, none⟩) (v := ?_) rfl (by kernel_rfl) (by kernel_rfl) (by kernel_rfl) rfl (fun _ _ _ h => h) (Or.inl ⟨by rfl, ?_⟩) ?_
          rotate_left; · intro w0 _; go_simp; try with_reducible rfl
          try simp only [Act.put, List.setIfInBounds_toArray, List.set_cons_zero, List.set_cons_succ]
          refine Go_.take (i := 10) (oi := ⟨some 36, Op.indexAddr 26 (Operand.tmp 4) (Operand.tmp 35), 0, _, _, none⟩) (v := ?_) rfl (by kernel_rfl) (by kernel_rfl) (by kernel_rfl) rfl (fun _ _ _ h => h) (Or.inl ⟨by rfl, ?_⟩) ?_
          rotate_left; · intro w0 _; go_simp; try with_reducible rfl
          try simp only [Act.put, List.setIfInBounds_toArray, List.set_cons_zero, List.set_cons_succ]
          refine Go_.take (i := 11) (oi := ⟨some 37, Op.load 5 (Operand.tmp 36), 5, _, _, none⟩) (v := ?_) rfl (by kernel_rfl) (by kernel_rfl) (by kernel_rfl) rfl (fun _ _ _ h => h) (Or.inl ⟨by rfl, ?_⟩) ?_
          rotate_left; · intro w0 hS; obtain ⟨hS, hzz, hW⟩ := hS; have h8 := hS.eight; go_simp; try with_reducible rfl
          try simp only [Act.put, List.setIfInBounds_toArray, List.set_cons_zero, List.set_cons_succ]
          refine Go_.take (i := 12) (oi := ⟨some 38, Op.convert 5 22 (Operand.tmp 37), 22, _, _, none⟩) (v := ?_) rfl (by kernel_rfl) (by kernel_rfl) (by kernel_rfl) rfl (fun _ _ _ h => h) (Or.inl ⟨by rfl, ?_⟩) ?_
          rotate_left; · intro w0 hS; obtain ⟨hS, hzz, hW⟩ := hS; have h8 := hS.eight; go_simp; try with_reducible rfl
          try simp only [Act.put, List.setIfInBounds_toArray, List.set_cons_zero, List.set_cons_succ]
          refine Go_.take (i := 13) (oi := ⟨some 39, Op.move (Operand.tmp 9), 3, _, _, none⟩) (v := ?_) rfl (by kernel_rfl) (by kernel_rfl) (by kernel_rfl) rfl (fun _ _ _ h => h) (Or.inl ⟨by rfl, ?_⟩) ?_
          rotate_left; · intro w0 _; go_simp; try with_reducible rfl
          try simp only [Act.put, List.setIfInBounds_toArray, List.set_cons_zero, List.set_cons_succ]
          refine Go_.take (i := 14) (oi := ⟨some 40, Op.binOp BinOp.add 3 (Operand.tmp 39) (Operand.const (Value.int IntKind.i64 1)) 3, 3, _, _, none⟩) (v := ?_) rfl (by kernel_rfl) (by kernel_rfl) (by kernel_rfl) rfl (fun _ _ _ h => h) (Or.inl ⟨by rfl, ?_⟩) ?_
          rotate_left; · intro w0 _; go_simp; try with_reducible rfl
          try simp only [Act.put, List.setIfInBounds_toArray, List.set_cons_zero, List.set_cons_succ]
          refine Go_.take (i := 15) (oi := ⟨some 41, Op.binOp BinOp.rem 3 (Operand.tmp 40) (Operand.const (Value.int IntKind.i64 8)) 3, 3, _, _, none⟩) (v := ?_) rfl (by kernel_rfl) (by kernel_rfl) (by kernel_rfl) rfl (fun _ _ _ h => h) (Or.inl ⟨by rfl, ?_⟩) ?_
          rotate_left; · intro w0 _; go_simp; try with_reducible rfl
          try simp only [Act.put, List.setIfInBounds_toArray, List.set_cons_zero, List.set_cons_succ]
          refine Go_.take (i := 16) (oi := ⟨some 42, Op.indexAddr 26 (Operand.tmp 4) (Operand.tmp 41), 0, _, _, none⟩) (v := ?_) rfl (by kernel_rfl) (by kernel_rfl) (by kernel_rfl) rfl (fun _ _ _ h => h) (Or.inl ⟨by rfl, ?_⟩) ?_
          rotate_left; · intro w0 _; go_simp; try with_reducible rfl
          try simp only [Act.put, List.setIfInBounds_toArray, List.set_cons_zero, List.set_cons_succ]
          refine Go_.take (i := 17) (oi := ⟨some 43, Op.load 5 (Operand.tmp 42), 5, _, _, none⟩) (v := ?_) rfl (by kernel_rfl) (by kernel_rfl) (by kernel_rfl) rfl (fun _ _ _ h => h) (Or.inl ⟨by rfl, ?_⟩) ?_
          rotate_left; · intro w0 hS; obtain ⟨hS, hzz, hW⟩ := hS; have h8 := hS.eight; go_simp; try with_reducible rfl
          try simp only [Act.put, List.setIfInBounds_toArray, List.set_cons_zero, List.set_cons_succ]
          refine Go_.take (i := 18) (oi := ⟨some 44, Op.convert 5 22 (Operand.tmp 43), 22, _, _, none⟩) (v := ?_) rfl (by kernel_rfl) (by kernel_rfl) (by kernel_rfl) rfl (fun _ _ _ h => h) (Or.inl ⟨by rfl, ?_⟩) ?_
          rotate_left; · intro w0 hS; obtain ⟨hS, hzz, hW⟩ := hS; have h8 := hS.eight; go_simp; try with_reducible rfl
          try simp only [Act.put, List.setIfInBounds_toArray, List.set_cons_zero, List.set_cons_succ]
          refine Go_.take (i := 19) (oi := ⟨some 45, Op.binOp BinOp.shl 22 (Operand.tmp 44) (Operand.const (Value.int IntKind.u64 8)) 35, 22, _, _, none⟩) (v := ?_) rfl (by kernel_rfl) (by kernel_rfl) (by kernel_rfl) rfl (fun _ _ _ h => h) (Or.inl ⟨by rfl, ?_⟩) ?_
          rotate_left; · intro w0 _; go_simp; try with_reducible rfl
          try simp only [Act.put, List.setIfInBounds_toArray, List.set_cons_zero, List.set_cons_succ]
          refine Go_.take (i := 20) (oi := ⟨some 46, Op.binOp BinOp.or 22 (Operand.tmp 38) (Operand.tmp 45) 22, 22, _, _, none⟩) (v := ?_) rfl (by kernel_rfl) (by kernel_rfl) (by kernel_rfl) rfl (fun _ _ _ h => h) (Or.inl ⟨by rfl, ?_⟩) ?_
          rotate_left; · intro w0 _; go_simp; try with_reducible rfl
          try simp only [Act.put, List.setIfInBounds_toArray, List.set_cons_zero, List.set_cons_succ]
          refine Go_.step (i := 7) (o := ⟨some 33, Op.convert 9 24 (Operand.tmp 32), 24, _, _, none⟩) (by kernel_rfl) rfl (fun K hT hK => ?_)
          rw [if_pos (by rfl)]
          refine wp_bts (.tmp 32) rfl (by rfl) ?_
          intro c7 w7 hB7 hb7
          refine hK.out _ _ (Till.both ⟨hT.1.1.below hb7 hT.1.1.lt, hT.1.2.1.below hb7 hT.1.2.1.lt, hT.1.2.2.trans (hb7.mono hT.1.2.2.size)⟩ ((hT.2 rfl).below hb7 (hT.2 rfl).lt)) ?_
          clear hT hK K
          refine Go_.step (i := 8) (o := ⟨some 34, Op.call { callee := Callee.value (Operand.func 26), args := #[Operand.tmp 29, Operand.tmp 31, Operand.tmp 33], argTypes := #[22, 22, 24] }, 22, _, _, none⟩) (by kernel_rfl) rfl (fun K hT hK => ?_)
          rw [if_pos (by rfl)]
          go_simp
          refine (key_sum (BitVec.ofNat 32 (2 + 2)) (BitVec.ofNat 32 2) z l hz9 _ _ rfl rfl _ _ _ hl hB7).mono ?_
          rintro e w8 ⟨rfl, rfl⟩
          refine hK.out _ _ (Till.both hT.1 (hT.2 rfl)) ?_
          clear hT hK K
          refine Go_.take (i := 21) (oi := ⟨some 47, Op.binOp BinOp.xor 22 (Operand.tmp 34) (Operand.tmp 46) 22, 22, _, _, none⟩) (v := ?_) rfl (by kernel_rfl) (by kernel_rfl) (by kernel_rfl) rfl (fun _ _ _ h => h) (Or.inl ⟨by rfl, ?_⟩) ?_
          rotate_left; · intro w0 _; go_simp; try with_reducible rfl
          try simp only [Act.put, List.setIfInBounds_toArray, List.set_cons_zero, List.set_cons_succ]
          refine Go_.take (i := 22) (oi := ⟨some 48, Op.indexAddr 28 (Operand.tmp 8) (Operand.tmp 26), 0, _, _, none⟩) (v := ?_) rfl (by kernel_rfl) (by kernel_rfl) (by kernel_rfl) rfl (fun _ _ _ h => h) (Or.inl ⟨by rfl, ?_⟩) ?_
          rotate_left; · intro w0 _; go_simp; try with_reducible rfl
          try simp only [Act.put, List.setIfInBounds_toArray, List.set_cons_zero, List.set_cons_succ]
          refine Go_.step (i := 23) (o := ⟨none, Op.store 22 (Operand.tmp 48) (Operand.tmp 47), 0, _, _, none⟩) (by kernel_rfl) rfl (fun K hT hK => ?_)
          rw [if_pos (by rfl)]
          have h8 := (hT.2 rfl).eight
          have hf := (hT.2 rfl).eightFree
          have hk2 := (hT.2 rfl).set 2 (.int .u32 (W (z ^^^ sw s.s2 s.s3)))
          go_simp
          have hA2 := And.intro (hT.1.1.far (p := ⟨w.heap.size + 1 + 1, 2, none⟩) (by show w.heap.size ≠ w.heap.size + 1 + 1; omega) (.int .u32 (W (z ^^^ sw s.s2 s.s3)))) (And.intro (hT.1.2.1.far (p := ⟨w.heap.size + 1 + 1, 2, none⟩) (by show w.heap.size + 1 ≠ w.heap.size + 1 + 1; omega) (.int .u32 (W (z ^^^ sw s.s2 s.s3)))) (hT.1.2.2.setCell (p := ⟨w.heap.size + 1 + 1, 2, none⟩) (by show w.heap.size ≤ w.heap.size + 1 + 1; omega) (.int .u32 (W (z ^^^ sw s.s2 s.s3)))))
          refine hK.out _ _ (Till.late rfl hA2) ?_
          clear hT hK K
          refine Go_.done (by kernel_rfl) ?_
          have HK := Lib.hid (And.intro hk2 hA2)
          clear hk2 hA2 HS hB7 hb7
          go_wp2_with fail
          go_round
          case rel => exact ⟨3, by omega, by go_num, HK.out.2.1, HK.out.2.2.1, (by have e : (kwK l s 2).vals.set 2 (.int .u32 (W (z ^^^ sw s.s2 s.s3))) = (kwK l s 3).vals := (by rw [hz9.out]; rfl) ; exact e ▸ HK.out.1), HK.out.2.2.2⟩
          case measure => simp [intOf]
        · obtain ⟨z, hz9⟩ : ∃ z, Hid (z = sumW (BitVec.ofNat 32 (3 + 2)) (BitVec.ofNat 32 3) l) := ⟨_, rfl⟩
          have HS := Lib.hid (And.intro hs.drew (And.intro hz.drew (And.intro hb.drew hk.drew)))
          clear hs hz hb hk
          have hi1 : (IntKind.i64.wrap 4).tmod 8 = 4 := by decide
          have hu0 := u32_byte s.s3
          have hu1 := u32_byte s.s4
          have hor := bits_or_sw2 s.s3 s.s4
          refine wp_region_till 23 (fun w' => Holds w' w.heap.size 26 [.int .u8 (s.s0.toNat : Int), .int .u8 (s.s1.toNat : Int), .int .u8 (s.s2.toNat : Int), .int .u8 (s.s3.toNat : Int), .int .u8 (s.s4.toNat : Int), .int .u8 (s.s5.toNat : Int), .int .u8 (s.s6.toNat : Int), .int .u8 (s.s7.toNat : Int)] ∧ Holds w' (w.heap.size + 1) 28 [.int .u32 0, .int .u32 0, .int .u32 0, .int .u32 0, .int .u32 0, .int .u32 0, .int .u32 0, .int .u32 0] ∧ Below w.heap.size w w') (fun w' => Holds w' (w.heap.size + 1 + 1) 28 (kwK l s 3).vals) (by kernel_rfl) (⟨HS.out.1, HS.out.2.1, HS.out.2.2.1⟩) (HS.out.2.2.2) ?_
          show Go_ _ _ _ _ _ _ _ _ _ _ (World.drew _)
          refine Go_.take (i := 0) (oi := ⟨some 26, Op.move (Operand.tmp 9), 3, _, _, none⟩) (v := ?_) rfl (by kernel_rfl) (by kernel_rfl) (by kernel_rfl) rfl (fun _ _ _ h => h) (Or.inl ⟨by rfl, ?_⟩) ?_
          rotate_left; · intro w0 _; go_simp; try with_reducible rfl
          try simp only [Act.put, List.setIfInBounds_toArray, List.set_cons_zero, List.set_cons_succ]
          refine Go_.take (i := 1) (oi := ⟨some 27, Op.move (Operand.tmp 9), 3, _, _, none⟩) (v := ?_) rfl (by kernel_rfl) (by kernel_rfl) (by kernel_rfl) rfl (fun _ _ _ h => h) (Or.inl ⟨by rfl, ?_⟩) ?_
          rotate_left; · intro w0 _; go_simp; try with_reducible rfl
          try simp only [Act.put, List.setIfInBounds_toArray, List.set_cons_zero, List.set_cons_succ]
          refine Go_.take (i := 2) (oi := ⟨some 28, Op.convert 3 22 (Operand.tmp 27), 22, _, _, none⟩) (v := ?_) rfl (by kernel_rfl) (by kernel_rfl) (by kernel_rfl) rfl (fun _ _ _ h => h) (Or.inl ⟨by rfl, ?_⟩) ?_
          rotate_left; · intro w0 hS; obtain ⟨hS, hzz, hW⟩ := hS; have h8 := hS.eight; go_simp; try with_reducible rfl
          try simp only [Act.put, List.setIfInBounds_toArray, List.set_cons_zero, List.set_cons_succ]
          refine Go_.take (i := 3) (oi := ⟨some 29, Op.binOp BinOp.add 22 (Operand.tmp 28) (Operand.const (Value.int IntKind.u32 2)) 22, 22, _, _, none⟩) (v := ?_) rfl (by kernel_rfl) (by kernel_rfl) (by kernel_rfl) rfl (fun _ _ _ h => h) (Or.inl ⟨by rfl, ?_⟩) ?_
          rotate_left; · intro w0 _; go_simp; try with_reducible rfl
          try simp only [Act.put, List.setIfInBounds_toArray, List.set_cons_zero, List.set_cons_succ]
          refine Go_.take (i := 4) (oi := ⟨some 30, Op.move (Operand.tmp 9), 3, _, _, none⟩) (v := ?_) rfl (by kernel_rfl) (by kernel_rfl) (by kernel_rfl) rfl (fun _ _ _ h => h) (Or.inl ⟨by rfl, ?_⟩) ?_
          rotate_left; · intro w0 _; go_simp; try with_reducible rfl
          try simp only [Act.put, List.setIfInBounds_toArray, List.set_cons_zero, List.set_cons_succ]
          refine Go_.take (i := 5) (oi := ⟨some 31, Op.convert 3 22 (Operand.tmp 30), 22, _, _, none⟩) (v := ?_) rfl (by kernel_rfl) (by kernel_rfl) (by kernel_rfl) rfl (fun _ _ _ h => h) (Or.inl ⟨by rfl, ?_⟩) ?_
          rotate_left; · intro w0 hS; obtain ⟨hS, hzz, hW⟩ := hS; have h8 := hS.eight; go_simp; try with_reducible rfl
          try simp only [Act.put, List.setIfInBounds_toArray, List.set_cons_zero, List.set_cons_succ]
          refine Go_.take (i := 6) (oi := ⟨some 32, Op.move (Operand.tmp 0), 9, _, _, none⟩) (v := ?_) rfl (by kernel_rfl) (by kernel_rfl) (by kernel_rfl) rfl (fun _ _ _ h => h) (Or.inl ⟨by rfl, ?_⟩) ?_
          rotate_left; · intro w0 _; go_simp; try with_reducible rfl
          try simp only [Act.put, List.setIfInBounds_toArray, List.set_cons_zero, List.set_cons_succ]
          refine Go_.take (i := 9) (oi := ⟨some 35, Op.move (Operand.tmp 9), 3, _, _, none⟩) (v := ?_) rfl (by kernel_rfl) (by kernel_rfl) (by kernel_rfl) rfl (fun _ _ _ h => h) (Or.inl ⟨by rfl, ?_⟩) ?_
          rotate_left; · intro w0 _; go_simp; try with_reducible rfl
          try simp only [Act.put, List.setIfInBounds_toArray, List.set_cons_zero, List.set_cons_succ]
          refine Go_.take (i := 10) (oi := ⟨some 36, Op.indexAddr 26 (Operand.tmp 4) (Operand.tmp 35), 0, _, _, none⟩) (v := ?_) rfl (by kernel_rfl) (by kernel_rfl) (by kernel_rfl) rfl (fun _ _ _ h => h) (Or.inl ⟨by rfl, ?_⟩) ?_
          rotate_left; · intro w0 _; go_simp; try with_reducible rfl
          try simp only [Act.put, List.setIfInBounds_toArray, List.set_cons_zero, List.set_cons_succ]
          refine Go_.take (i := 11) (oi := ⟨some 37, Op.load 5 (Operand.tmp 36), 5, _, _, none⟩) (v := ?_) rfl (by kernel_rfl) (by kernel_rfl) (by kernel_rfl) rfl (fun _ _ _ h => h) (Or.inl ⟨by rfl, ?_⟩) ?_
          rotate_left; · intro w0 hS; obtain ⟨hS, hzz, hW⟩ := hS; have h8 := hS.eight; go_simp; try with_reducible rfl
          try simp only [Act.put, List.setIfInBounds_toArray, List.set_cons_zero, List.set_cons_succ]
          refine Go_.take (i := 12) (oi := ⟨some 38, Op.convert 5 22 (Operand.tmp 37), 22, _, _, none⟩) (v := ?_) rfl (by kernel_rfl) (by kernel_rfl) (by kernel_rfl) rfl (fun _ _ _ h => h) (Or.inl ⟨by rfl, ?_⟩) ?_
          rotate_left; · intro w0 hS; obtain ⟨hS, hzz, hW⟩ := hS; have h8 := hS.eight; go_simp; try with_reducible rfl
          try simp only [Act.put, List.setIfInBounds_toArray, List.set_cons_zero, List.set_cons_succ]
          refine Go_.take (i := 13) (oi := ⟨some 39, Op.move (Operand.tmp 9), 3, _, _, none⟩) (v := ?_) rfl (by kernel_rfl) (by kernel_rfl) (by kernel_rfl) rfl (fun _ _ _ h => h) (Or.inl ⟨by rfl, ?_⟩) ?_
          rotate_left; · intro w0 _; go_simp; try with_reducible rfl
          try simp only [Act.put, List.setIfInBounds_toArray, List.set_cons_zero, List.set_cons_succ]
          refine Go_.take (i := 14) (oi := ⟨some 40, Op.binOp BinOp.add 3 (Operand.tmp 39) (Operand.const (Value.int IntKind.i64 1)) 3, 3, _, _, none⟩) (v := ?_) rfl (by kernel_rfl) (by kernel_rfl) (by kernel_rfl) rfl (fun _ _ _ h => h) (Or.inl ⟨by rfl, ?_⟩) ?_
          rotate_left; · intro w0 _; go_simp; try with_reducible rfl
          try simp only [Act.put, List.setIfInBounds_toArray, List.set_cons_zero, List.set_cons_succ]
          refine Go_.take (i := 15) (oi := ⟨some 41, Op.binOp BinOp.rem 3 (Operand.tmp 40) (Operand.const (Value.int IntKind.i64 8)) 3, 3, _, _, none⟩) (v := ?_) rfl (by kernel_rfl) (by kernel_rfl) (by kernel_rfl) rfl (fun _ _ _ h => h) (Or.inl ⟨by rfl, ?_⟩) ?_
          rotate_left; · intro w0 _; go_simp; try with_reducible rfl
          try simp only [Act.put, List.setIfInBounds_toArray, List.set_cons_zero, List.set_cons_succ]
          refine Go_.take (i := 16) (oi := ⟨some 42, Op.indexAddr 26 (Operand.tmp 4) (Operand.tmp 41), 0, _, _, none⟩) (v := ?_) rfl (by kernel_rfl) (by kernel_rfl) (by kernel_rfl) rfl (fun _ _ _ h => h) (Or.inl ⟨by rfl, ?_⟩) ?_
          rotate_left; · intro w0 _; go_simp; try with_reducible rfl
          try simp only [Act.put, List.setIfInBounds_toArray, List.set_cons_zero, List.set_cons_succ]
          refine Go_.take (i := 17) (oi := ⟨some 43, Op.load 5 (Operand.tmp 42), 5, _, _, none⟩) (v := ?_) rfl (by kernel_rfl) (by kernel_rfl) (by kernel_rfl) rfl (fun _ _ _ h => h) (Or.inl ⟨by rfl, ?_⟩) ?_
          rotate_left; · intro w0 hS; obtain ⟨hS, hzz, hW⟩ := hS; have h8 := hS.eight; go_simp; try with_reducible rfl
          try simp only [Act.put, List.setIfInBounds_toArray, List.set_cons_zero, List.set_cons_succ]
          refine Go_.take (i := 18) (oi := ⟨some 44, Op.convert 5 22 (Operand.tmp 43), 22, _, _, none⟩) (v := ?_) rfl (by kernel_rfl) (by kernel_rfl) (by kernel_rfl) rfl (fun _ _ _ h => h) (Or.inl ⟨by rfl, ?_⟩) ?_
          rotate_left; · intro w0 hS; obtain ⟨hS, hzz, hW⟩ := hS; have h8 := hS.eight; go_simp; try with_reducible rfl
          try simp only [Act.put, List.setIfInBounds_toArray, List.set_cons_zero, List.set_cons_succ]
          refine Go_.take (i := 19) (oi := ⟨some 45, Op.binOp BinOp.shl 22 (Operand.tmp 44) (Operand.const (Value.int IntKind.u64 8)) 35, 22, _, _, none⟩) (v := ?_) rfl (by kernel_rfl) (by kernel_rfl) (by kernel_rfl) rfl (fun _ _ _ h => h) (Or.inl ⟨by rfl, ?_⟩) ?_
          rotate_left; · intro w0 _; go_simp; try with_reducible rfl
          try simp only [Act.put, List.setIfInBounds_toArray, List.set_cons_zero, List.set_cons_succ]
          refine Go_.take (i := 20) (oi := ⟨some 46, Op.binOp BinOp.or 22 (Operand.tmp 38) (Operand.tmp 45) 22, 22, _, _, none⟩) (v := ?_) rfl (by kernel_rfl) (by kernel_rfl) (by kernel_rfl) rfl (fun _ _ _ h => h) (Or.inl ⟨by rfl, ?_⟩) ?_
          rotate_left; · intro w0 _; go_simp; try with_reducible rfl
          try simp only [Act.put, List.setIfInBounds_toArray, List.set_cons_zero, List.set_cons_succ]
          refine Go_.step (i := 7) (o := ⟨some 33, Op.convert 9 24 (Operand.tmp 32), 24, _, _, none⟩) (by kernel_rfl) rfl (fun K hT hK => ?_)
          rw [if_pos (by rfl)]
          refine wp_bts (.tmp 32) rfl (by rfl) ?_
          intro c7 w7 hB7 hb7
          refine hK.out _ _ (Till.both ⟨hT.1.1.below hb7 hT.1.1.lt, hT.1.2.1.below hb7 hT.1.2.1.lt, hT.1.2.2.trans (hb7.mono hT.1.2.2.size)⟩ ((hT.2 rfl).below hb7 (hT.2 rfl).lt)) ?_
          clear hT hK K
          refine Go_.step (i := 8) (o := ⟨some 34, Op.call { callee := Callee.value (Operand.func 26), args := #[Operand.tmp 29, Operand.tmp 31, Operand.tmp 33], argTypes := #[22, 22, 24] }, 22, _, _, none⟩) (by kernel_rfl) rfl (fun K hT hK => ?_)
          rw [if_pos (by rfl)]
          go_simp
          refine (key_sum (BitVec.ofNat 32 (3 + 2)) (BitVec.ofNat 32 3) z l hz9 _ _ rfl rfl _ _ _ hl hB7).mono ?_
          rintro e w8 ⟨rfl, rfl⟩
          refine hK.out _ _ (Till.both hT.1 (hT.2 rfl)) ?_
          clear hT hK K
          refine Go_.take (i := 21) (oi := ⟨some 47, Op.binOp BinOp.xor 22 (Operand.tmp 34) (Operand.tmp 46) 22, 22, _, _, none⟩) (v := ?_) rfl (by kernel_rfl) (by kernel_rfl) (by kernel_rfl) rfl (fun _ _ _ h => h) (Or.inl ⟨by rfl, ?_⟩) ?_
          rotate_left; · intro w0 _; go_simp; try with_reducible rfl
          try simp only [Act.put, List.setIfInBounds_toArray, List.set_cons_zero, List.set_cons_succ]
          refine Go_.take (i := 22) (oi := ⟨some 48, Op.indexAddr 28 (Operand.tmp 8) (Operand.tmp 26), 0, _, _, none⟩) (v := ?_) rfl (by kernel_rfl) (by kernel_rfl) (by kernel_rfl) rfl (fun _ _ _ h => h) (Or.inl ⟨by rfl, ?_⟩) ?_
          rotate_left; · intro w0 _; go_simp; try with_reducible rfl
          try simp only [Act.put, List.setIfInBounds_toArray, List.set_cons_zero, List.set_cons_succ]
          refine Go_.step (i := 23) (o := ⟨none, Op.store 22 (Operand.tmp 48) (Operand.tmp 47), 0, _, _, none⟩) (by kernel_rfl) rfl (fun K hT hK => ?_)
          rw [if_pos (by rfl)]
          have h8 := (hT.2 rfl).eight
          have hf := (hT.2 rfl).eightFree
          have hk2 := (hT.2 rfl).set 3 (.int .u32 (W (z ^^^ sw s.s3 s.s4)))
          go_simp
          have hA2 := And.intro (hT.1.1.far (p := ⟨w.heap.size + 1 + 1, 3, none⟩) (by show w.heap.size ≠ w.heap.size + 1 + 1; omega) (.int .u32 (W (z ^^^ sw s.s3 s.s4)))) (And.intro (hT.1.2.1.far (p := ⟨w.heap.size + 1 + 1, 3, none⟩) (by show w.heap.size + 1 ≠ w.heap.size + 1 + 1; omega) (.int .u32 (W (z ^^^ sw s.s3 s.s4)))) (hT.1.2.2.setCell (p := ⟨w.heap.size + 1 + 1, 3, none⟩) (by show w.heap.size ≤ w.heap.size + 1 + 1; omega) (.int .u32 (W (z ^^^ sw s.s3 s.s4)))))
          refine hK.out _ _ (Till.late rfl hA2) ?_
          clear hT hK K
          refine Go_.done (by kernel_rfl) ?_
          have HK := Lib.hid (And.intro hk2 hA2)
          clear hk2 hA2 HS hB7 hb7
          go_wp2_with fail
          go_round
          case rel => exact ⟨4, by omega, by go_num, HK.out.2.1, HK.out.2.2.1, (by have e : (kwK l s 3).vals.set 3 (.int .u32 (W (z ^^^ sw s.s3 s.s4))) = (kwK l s 4).vals := (by rw [hz9.out]; rfl) ; exact e ▸ HK.out.1), HK.out.2.2.2⟩
          case measure => simp [intOf]
        · obtain ⟨z, hz9⟩ : ∃ z, Hid (z = sumW (BitVec.ofNat 32 (4 + 2)) (BitVec.ofNat 32 4) l) := ⟨_, rfl⟩
          have HS := Lib.hid (And.intro hs.drew (And.intro hz.drew (And.intro hb.drew hk.drew)))
          clear hs hz hb hk
          have hi1 : (IntKind.i64.wrap 5).tmod 8 = 5 := by decide
          have hu0 := u32_byte s.s4
          have hu1 := u32_byte s.s5
          have hor := bits_or_sw2 s.s4 s.s5
          refine wp_region_till 23 (fun w' => Holds w' w.heap.size 26 [.int .u8 (s.s0.toNat : Int), .int .u8 (s.s1.toNat : Int), .int .u8 (s.s2.toNat : Int), .int .u8 (s.s3.toNat : Int), .int .u8 (s.s4.toNat : Int), .int .u8 (s.s5.toNat : Int), .int .u8 (s.s6.toNat : Int), .int .u8 (s.s7.toNat : Int)] ∧ Holds w' (w.heap.size + 1) 28 [.int .u32 0, .int .u32 0, .int .u32 0, .int .u32 0, .int .u32 0, .int .u32 0, .int .u32 0, .int .u32 0] ∧ Below w.heap.size w w') (fun w' => Holds w' (w.heap.size + 1 + 1) 28 (kwK l s 4).vals) (by kernel_rfl) (⟨HS.out.1, HS.out.2.1, HS.out.2.2.1⟩) (HS.out.2.2.2) ?_
          show Go_ _ _ _ _ _ _ _ _ _ _ (World.drew _)
          refine Go_.take (i := 0) (oi := ⟨some 26, Op.move (Operand.tmp 9), 3, _, _, none⟩) (v := ?_) rfl (by kernel_rfl) (by kernel_rfl) (by kernel_rfl) rfl (fun _ _ _ h => h) (Or.inl ⟨by rfl, ?_⟩) ?_
          rotate_left; · intro w0 _; go_simp; try with_reducible rfl
          try simp only [Act.put, List.setIfInBounds_toArray, List.set_cons_zero, List.set_cons_succ]
          refine Go_.take (i := 1) (oi := ⟨some 27, Op.move (Operand.tmp 9), 3, _, _, none⟩) (v := ?_) rfl (by kernel_rfl) (by kernel_rfl) (by kernel_rfl) rfl (fun _ _ _ h => h) (Or.inl ⟨by rfl, ?_⟩) ?_
          rotate_left; · intro w0 _; go_simp; try with_reducible rfl
          try simp only [Act.put, List.setIfInBounds_toArray, List.set_cons_zero, List.set_cons_succ]
          refine Go_.take (i := 2) (oi := ⟨some 28, Op.convert 3 22 (Operand.tmp 27), 22, _, _, none⟩) (v := ?_) rfl (by kernel_rfl) (by kernel_rfl) (by kernel_rfl) rfl (fun _ _ _ h => h) (Or.inl ⟨by rfl, ?_⟩) ?_
          rotate_left; · intro w0 hS; obtain ⟨hS, hzz, hW⟩ := hS; have h8 := hS.eight; go_simp; try with_reducible rfl
          try simp only [Act.put, List.setIfInBounds_toArray, List.set_cons_zero, List.set_cons_succ]
          refine Go_.take (i := 3) (oi := ⟨some 29, Op.binOp BinOp.add 22 (Operand.tmp 28) (Operand.const (Value.int IntKind.u32 2)) 22, 22, _, _, none⟩) (v := ?_) rfl (by kernel_rfl) (by kernel_rfl) (by kernel_rfl) rfl (fun _ _ _ h => h) (Or.inl ⟨by rfl, ?_⟩) ?_
          rotate_left; · intro w0 _; go_simp; try with_reducible rfl
          try simp only [Act.put, List.setIfInBounds_toArray, List.set_cons_zero, List.set_cons_succ]
          refine Go_.take (i := 4) (oi := ⟨some 30, Op.move (Operand.tmp 9), 3, _, _, none⟩) (v := ?_) rfl (by kernel_rfl) (by kernel_rfl) (by kernel_rfl) rfl (fun _ _ _ h => h) (Or.inl ⟨by rfl, ?_⟩) ?_
          rotate_left; · intro w0 _; go_simp; try with_reducible rfl
          try simp only [Act.put, List.setIfInBounds_toArray, List.set_cons_zero, List.set_cons_succ]
          refine Go_.take (i := 5) (oi := ⟨some 31, Op.convert 3 22 (Operand.tmp 30), 22, _, _, none⟩) (v := ?_) rfl (by kernel_rfl) (by kernel_rfl) (by kernel_rfl) rfl (fun _ _ _ h => h) (Or.inl ⟨by rfl, ?_⟩) ?_
          rotate_left; · intro w0 hS; obtain ⟨hS, hzz, hW⟩ := hS; have h8 := hS.eight; go_simp; try with_reducible rfl
          try simp only [Act.put, List.setIfInBounds_toArray, List.set_cons_zero, List.set_cons_succ]
          refine Go_.take (i := 6) (oi := ⟨some 32, Op.move (Operand.tmp 0), 9, _, _, none⟩) (v := ?_) rfl (by kernel_rfl) (by kernel_rfl) (by kernel_rfl) rfl (fun _ _ _ h => h) (Or.inl ⟨by rfl, ?_⟩) ?_
          rotate_left; · intro w0 _; go_simp; try with_reducible rfl
          try simp only [Act.put, List.setIfInBounds_toArray, List.set_cons_zero, List.set_cons_succ]
          refine Go_.take (i := 9) (oi := ⟨some 35, Op.move (Operand.tmp 9), 3, _, _, none⟩) (v := ?_) rfl (by kernel_rfl) (by kernel_rfl) (by kernel_rfl) rfl (fun _ _ _ h => h) (Or.inl ⟨by rfl, ?_⟩) ?_
          rotate_left; · intro w0 _; go_simp; try with_reducible rfl
          try simp only [Act.put, List.setIfInBounds_toArray, List.set_cons_zero, List.set_cons_succ]
          refine Go_.take (i := 10) (oi := ⟨some 36, Op.indexAddr 26 (Operand.tmp 4) (Operand.tmp 35), 0, _, _, none⟩) (v := ?_) rfl (by kernel_rfl) (by kernel_rfl) (by kernel_rfl) rfl (fun _ _ _ h => h) (Or.inl ⟨by rfl, ?_⟩) ?_
          rotate_left; · intro w0 _; go_simp; try with_reducible rfl
          try simp only [Act.put, List.setIfInBounds_toArray, List.set_cons_zero, List.set_cons_succ]
          refine Go_.take (i := 11) (oi := ⟨some 37, Op.load 5 (Operand.tmp 36), 5, _, _, none⟩) (v := ?_) rfl (by kernel_rfl) (by kernel_rfl) (by kernel_rfl) rfl (fun _ _ _ h => h) (Or.inl ⟨by rfl, ?_⟩) ?_
          rotate_left; · intro w0 hS; obtain ⟨hS, hzz, hW⟩ := hS; have h8 := hS.eight; go_simp; try with_reducible rfl
          try simp only [Act.put, List.setIfInBounds_toArray, List.set_cons_zero, List.set_cons_succ]
          refine Go_.take (i := 12) (oi := ⟨some 38, Op.convert 5 22 (Operand.tmp 37), 22, _, _, none⟩) (v := ?_) rfl (by kernel_rfl) (by kernel_rfl) (by kernel_rfl) rfl (fun _ _ _ h => h) (Or.inl ⟨by rfl, ?_⟩) ?_
          rotate_left; · intro w0 hS; obtain ⟨hS, hzz, hW⟩ := hS; have h8 := hS.eight; go_simp; try with_reducible rfl
          try simp only [Act.put, List.setIfInBounds_toArray, List.set_cons_zero, List.set_cons_succ]
          refine Go_.take (i := 13) (oi := ⟨some 39, Op.move (Operand.tmp 9), 3, _, _, none⟩) (v := ?_) rfl (by kernel_rfl) (by kernel_rfl) (by kernel_rfl) rfl (fun _ _ _ h => h) (Or.inl ⟨by rfl, ?_⟩) ?_
          rotate_left; · intro w0 _; go_simp; try with_reducible rfl
          try simp only [Act.put, List.setIfInBounds_toArray, List.set_cons_zero, List.set_cons_succ]
          refine Go_.take (i := 14) (oi := ⟨some 40, Op.binOp BinOp.add 3 (Operand.tmp 39) (Operand.const (Value.int IntKind.i64 1)) 3, 3, _, _, none⟩) (v := ?_) rfl (by kernel_rfl) (by kernel_rfl) (by kernel_rfl) rfl (fun _ _ _ h => h) (Or.inl ⟨by rfl, ?_⟩) ?_
          rotate_left; · intro w0 _; go_simp; try with_reducible rfl
          try simp only [Act.put, List.setIfInBounds_toArray, List.set_cons_zero, List.set_cons_succ]
          refine Go_.take (i := 15) (oi := ⟨some 41, Op.binOp BinOp.rem 3 (Operand.tmp 40) (Operand.const (Value.int IntKind.i64 8)) 3, 3, _, _, none⟩) (v := ?_) rfl (by kernel_rfl) (by kernel_rfl) (by kernel_rfl) rfl (fun _ _ _ h => h) (Or.inl ⟨by rfl, ?_⟩) ?_
          rotate_left; · intro w0 _; go_simp; try with_reducible rfl
          try simp only [Act.put, List.setIfInBounds_toArray, List.set_cons_zero, List.set_cons_succ]
          refine Go_.take (i := 16) (oi := ⟨some 42, Op.indexAddr 26 (Operand.tmp 4) (Operand.tmp 41), 0, _, _, none⟩) (v := ?_) rfl (by kernel_rfl) (by kernel_rfl) (by kernel_rfl) rfl (fun _ _ _ h => h) (Or.inl ⟨by rfl, ?_⟩) ?_
          rotate_left; · intro w0 _; go_simp; try with_reducible rfl
          try simp only [Act.put, List.setIfInBounds_toArray, List.set_cons_zero, List.set_cons_succ]
          refine Go_.take (i := 17) (oi := ⟨some 43, Op.load 5 (Operand.tmp 42), 5, _, _, none⟩) (v := ?_) rfl (by kernel_rfl) (by kernel_rfl) (by kernel_rfl) rfl (fun _ _ _ h => h) (Or.inl ⟨by rfl, ?_⟩) ?_
          rotate_left; · intro w0 hS; obtain ⟨hS, hzz, hW⟩ := hS; have h8 := hS.eight; go_simp; try with_reducible rfl
          try simp only [Act.put, List.setIfInBounds_toArray, List.set_cons_zero, List.set_cons_succ]
          refine Go_.take (i := 18) (oi := ⟨some 44, Op.convert 5 22 (Operand.tmp 43), 22, _, _, none⟩) (v := ?_) rfl (by kernel_rfl) (by kernel_rfl) (by kernel_rfl) rfl (fun _ _ _ h => h) (Or.inl ⟨by rfl, ?_⟩) ?_
          rotate_left; · intro w0 hS; obtain ⟨hS, hzz, hW⟩ := hS; have h8 := hS.eight; go_simp; try with_reducible rfl
          try simp only [Act.put, List.setIfInBounds_toArray, List.set_cons_zero, List.set_cons_succ]
          refine Go_.take (i := 19) (oi := ⟨some 45, Op.binOp BinOp.shl 22 (Operand.tmp 44) (Operand.const (Value.int IntKind.u64 8)) 35, 22, _, _, none⟩) (v := ?_) rfl (by kernel_rfl) (by kernel_rfl) (by kernel_rfl) rfl (fun _ _ _ h => h) (Or.inl ⟨by rfl, ?_⟩) ?_
          rotate_left; · intro w0 _; go_simp; try with_reducible rfl
          try simp only [Act.put, List.setIfInBounds_toArray, List.set_cons_zero, List.set_cons_succ]
          refine Go_.take (i := 20) (oi := ⟨some 46, Op.binOp BinOp.or 22 (Operand.tmp 38) (Operand.tmp 45) 22, 22, _, _, none⟩) (v := ?_) rfl (by kernel_rfl) (by kernel_rfl) (by kernel_rfl) rfl (fun _ _ _ h => h) (Or.inl ⟨by rfl, ?_⟩) ?_
          rotate_left; · intro w0 _; go_simp; try with_reducible rfl
          try simp only [Act.put, List.setIfInBounds_toArray, List.set_cons_zero, List.set_cons_succ]
          refine Go_.step (i := 7) (o := ⟨some 33, Op.convert 9 24 (Operand.tmp 32), 24, _, _, none⟩) (by kernel_rfl) rfl (fun K hT hK => ?_)
          rw [if_pos (by rfl)]
          refine wp_bts (.tmp 32) rfl (by rfl) ?_
          intro c7 w7 hB7 hb7
          refine hK.out _ _ (Till.both ⟨hT.1.1.below hb7 hT.1.1.lt, hT.1.2.1.below hb7 hT.1.2.1.lt, hT.1.2.2.trans (hb7.mono hT.1.2.2.size)⟩ ((hT.2 rfl).below hb7 (hT.2 rfl).lt)) ?_
          clear hT hK K
          refine Go_.step (i := 8) (o := ⟨some 34, Op.call { callee := Callee.value (Operand.func 26), args := #[Operand.tmp 29, Operand.tmp 31, Operand.tmp 33], argTypes := #[22, 22, 24] }, 22, _, _, none⟩) (by kernel_rfl) rfl (fun K hT hK => ?_)
          rw [if_pos (by rfl)]
          go_simp
          refine (key_sum (BitVec.ofNat 32 (4 + 2)) (BitVec.ofNat 32 4) z l hz9 _ _ rfl rfl _ _ _ hl hB7).mono ?_
          rintro e w8 ⟨rfl, rfl⟩
          refine hK.out _ _ (Till.both hT.1 (hT.2 rfl)) ?_
          clear hT hK K
          refine Go_.take (i := 21) (oi := ⟨some 47, Op.binOp BinOp.xor 22 (Operand.tmp 34) (Operand.tmp 46) 22, 22, _, _, none⟩) (v := ?_) rfl (by kernel_rfl) (by kernel_rfl) (by kernel_rfl) rfl (fun _ _ _ h => h) (Or.inl ⟨by rfl, ?_⟩) ?_
          rotate_left; · intro w0 _; go_simp; try with_reducible rfl
          try simp only [Act.put, List.setIfInBounds_toArray, List.set_cons_zero, List.set_cons_succ]
          refine Go_.take (i := 22) (oi := ⟨some 48, Op.indexAddr 28 (Operand.tmp 8) (Operand.tmp 26), 0, _, _, none⟩) (v := ?_) rfl (by kernel_rfl) (by kernel_rfl) (by kernel_rfl) rfl (fun _ _ _ h => h) (Or.inl ⟨by rfl, ?_⟩) ?_
          rotate_left; · intro w0 _; go_simp; try with_reducible rfl
          try simp only [Act.put, List.setIfInBounds_toArray, List.set_cons_zero, List.set_cons_succ]
          refine Go_.step (i := 23) (o := ⟨none, Op.store 22 (Operand.tmp 48) (Operand.tmp 47), 0, _, _, none⟩) (by kernel_rfl) rfl (fun K hT hK => ?_)
          rw [if_pos (by rfl)]
          have h8 := (hT.2 rfl).eight
          have hf := (hT.2 rfl).eightFree
          have hk2 := (hT.2 rfl).set 4 (.int .u32 (W (z ^^^ sw s.s4 s.s5)))
          go_simp
          have hA2 := And.intro (hT.1.1.far (p := ⟨w.heap.size + 1 + 1, 4, none⟩) (by show w.heap.size ≠ w.heap.size + 1 + 1; omega) (.int .u32 (W (z ^^^ sw s.s4 s.s5)))) (And.intro (hT.1.2.1.far (p := ⟨w.heap.size + 1 + 1, 4, none⟩) (by show w.heap.size + 1 ≠ w.heap.size + 1 + 1; omega) (.int .u32 (W (z ^^^ sw s.s4 s.s5)))) (hT.1.2.2.setCell (p := ⟨w.heap.size + 1 + 1, 4, none⟩) (by show w.heap.size ≤ w.heap.size + 1 + 1; omega) (.int .u32 (W (z ^^^ sw s.s4 s.s5)))))
          refine hK.out _ _ (Till.late rfl hA2) ?_
          clear hT hK K
          refine Go_.done (by kernel_rfl) ?_
          have HK := Lib.hid (And.intro hk2 hA2)
          clear hk2 hA2 HS hB7 hb7
          go_wp2_with fail
          go_round
          case rel => exact ⟨5, by omega, by go_num, HK.out.2.1, HK.out.2.2.1, (by have e : (kwK l s 4).vals.set 4 (.int .u32 (W (z ^^^ sw s.s4 s.s5))) = (kwK l s 5).vals := (by rw [hz9.out]; rfl) ; exact e ▸ HK.out.1), HK.out.2.2.2⟩
          case measure => simp [intOf]
        · obtain ⟨z, hz9⟩ : ∃ z, Hid (z = sumW (BitVec.ofNat 32 (5 + 2)) (BitVec.ofNat 32 5) l) := ⟨_, rfl⟩
          have HS := Lib.hid (And.intro hs.drew (And.intro hz.drew (And.intro hb.drew hk.drew)))
          clear hs hz hb hk
          have hi1 : (IntKind.i64.wrap 6).tmod 8 = 6 := by decide
          have hu0 := u32_byte s.s5
          have hu1 := u32_byte s.s6
          have hor := bits_or_sw2 s.s5 s.s6
          refine wp_region_till 23 (fun w' => Holds w' w.heap.size 26 [.int .u8 (s.s0.toNat : Int), .int .u8 (s.s1.toNat : Int), .int .u8 (s.s2.toNat : Int), .int .u8 (s.s3.toNat : Int), .int .u8 (s.s4.toNat : Int), .int .u8 (s.s5.toNat : Int), .int .u8 (s.s6.toNat : Int), .int .u8 (s.s7.toNat : Int)] ∧ Holds w' (w.heap.size + 1) 28 [.int .u32 0, .int .u32 0, .int .u32 0, .int .u32 0, .int .u32 0, .int .u32 0, .int .u32 0, .int .u32 0] ∧ Below w.heap.size w w') (fun w' => Holds w' (w.heap.size + 1 + 1) 28 (kwK l s 5).vals) (by kernel_rfl) (⟨HS.out.1, HS.out.2.1, HS.out.2.2.1⟩) (HS.out.2.2.2) ?_
          show Go_ _ _ _ _ _ _ _ _ _ _ (World.drew _)
          refine Go_.take (i := 0) (oi := ⟨some 26, Op.move (Operand.tmp 9), 3, _, _, none⟩) (v := ?_) rfl (by kernel_rfl) (by kernel_rfl) (by kernel_rfl) rfl (fun _ _ _ h => h) (Or.inl ⟨by rfl, ?_⟩) ?_
          rotate_left; · intro w0 _; go_simp; try with_reducible rfl
          try simp only [Act.put, List.setIfInBounds_toArray, List.set_cons_zero, List.set_cons_succ]
          refine Go_.take (i := 1) (oi := ⟨some 27, Op.move (Operand.tmp 9), 3, _, _, none⟩) (v := ?_) rfl (by kernel_rfl) (by kernel_rfl) (by kernel_rfl) rfl (fun _ _ _ h => h) (Or.inl ⟨by rfl, ?_⟩) ?_
          rotate_left; · intro w0 _; go_simp; try with_reducible rfl
          try simp only [Act.put, List.setIfInBounds_toArray, List.set_cons_zero, List.set_cons_succ]
          refine Go_.take (i := 2) (oi := ⟨some 28, Op.convert 3 22 (Operand.tmp 27), 22, _, _, none⟩) (v := ?_) rfl (by kernel_rfl) (by kernel_rfl) (by kernel_rfl) rfl (fun _ _ _ h => h) (Or.inl ⟨by rfl, ?_⟩) ?_
          rotate_left; · intro w0 hS; obtain ⟨hS, hzz, hW⟩ := hS; have h8 := hS.eight; go_simp; try with_reducible rfl
          try simp only [Act.put, List.setIfInBounds_toArray, List.set_cons_zero, List.set_cons_succ]
          refine Go_.take (i := 3) (oi := ⟨some 29, Op.binOp BinOp.add 22 (Operand.tmp 28) (Operand.const (Value.int IntKind.u32 2)) 22, 22, _, _, none⟩) (v := ?_) rfl (by kernel_rfl) (by kernel_rfl) (by kernel_rfl) rfl (fun _ _ _ h => h) (Or.inl ⟨by rfl, ?_⟩) ?_
          rotate_left; · intro w0 _; go_simp; try with_reducible rfl
          try simp only [Act.put, List.setIfInBounds_toArray, List.set_cons_zero, List.set_cons_succ]
          refine Go_.take (i := 4) (oi := ⟨some 30, Op.move (Operand.tmp 9), 3, _, _, none⟩) (v := ?_) rfl (by kernel_rfl) (by kernel_rfl) (by kernel_rfl) rfl (fun _ _ _ h => h) (Or.inl ⟨by rfl, ?_⟩) ?_
          rotate_left; · intro w0 _; go_simp; try with_reducible rfl
          try simp only [Act.put, List.setIfInBounds_toArray, List.set_cons_zero, List.set_cons_succ]
          refine Go_.take (i := 5) (oi := ⟨some 31, Op.convert 3 22 (Operand.tmp 30), 22, _, _, none⟩) (v := ?_) rfl (by kernel_rfl) (by kernel_rfl) (by kernel_rfl) rfl (fun _ _ _ h => h) (Or.inl ⟨by rfl, ?_⟩) ?_
          rotate_left; · intro w0 hS; obtain ⟨hS, hzz, hW⟩ := hS; have h8 := hS.eight; go_simp; try with_reducible rfl
          try simp only [Act.put, List.setIfInBounds_toArray, List.set_cons_zero, List.set_cons_succ]
          refine Go_.take (i := 6) (oi := ⟨some 32, Op.move (Operand.tmp 0), 9, _, _, none⟩) (v := ?_) rfl (by kernel_rfl) (by kernel_rfl) (by kernel_rfl) rfl (fun _ _ _ h => h) (Or.inl ⟨by rfl, ?_⟩) ?_
          rotate_left; · intro w0 _; go_simp; try with_reducible rfl
          try simp only [Act.put, List.setIfInBounds_toArray, List.set_cons_zero, List.set_cons_succ]
          refine Go_.take (i := 9) (oi := ⟨some 35, Op.move (Operand.tmp 9), 3, _, _, none⟩) (v := ?_) rfl (by kernel_rfl) (by kernel_rfl) (by kernel_rfl) rfl (fun _ _ _ h => h) (Or.inl ⟨by rfl, ?_⟩) ?_
          rotate_left; · intro w0 _; go_simp; try with_reducible rfl
          try simp only [Act.put, List.setIfInBounds_toArray, List.set_cons_zero, List.set_cons_succ]
          refine Go_.take (i := 10) (oi := ⟨some 36, Op.indexAddr 26 (Operand.tmp 4) (Operand.tmp 35), 0, _, _, none⟩) (v := ?_) rfl (by kernel_rfl) (by kernel_rfl) (by kernel_rfl) rfl (fun _ _ _ h => h) (Or.inl ⟨by rfl, ?_⟩) ?_
          rotate_left; · intro w0 _; go_simp; try with_reducible rfl
          try simp only [Act.put, List.setIfInBounds_toArray, List.set_cons_zero, List.set_cons_succ]
          refine Go_.take (i := 11) (oi := ⟨some 37, Op.load 5 (Operand.tmp 36), 5, _, _, none⟩) (v := ?_) rfl (by kernel_rfl) (by kernel_rfl) (by kernel_rfl) rfl (fun _ _ _ h => h) (Or.inl ⟨by rfl, ?_⟩) ?_
          rotate_left; · intro w0 hS; obtain ⟨hS, hzz, hW⟩ := hS; have h8 := hS.eight; go_simp; try with_reducible rfl
          try simp only [Act.put, List.setIfInBounds_toArray, List.set_cons_zero, List.set_cons_succ]
          refine Go_.take (i := 12) (oi := ⟨some 38, Op.convert 5 22 (Operand.tmp 37), 22, _, _, none⟩) (v := ?_) rfl (by kernel_rfl) (by kernel_rfl) (by kernel_rfl) rfl (fun _ _ _ h => h) (Or.inl ⟨by rfl, ?_⟩) ?_
          rotate_left; · intro w0 hS; obtain ⟨hS, hzz, hW⟩ := hS; have h8 := hS.eight; go_simp; try with_reducible rfl
          try simp only [Act.put, List.setIfInBounds_toArray, List.set_cons_zero, List.set_cons_succ]
          refine Go_.take (i := 13) (oi := ⟨some 39, Op.move (Operand.tmp 9), 3, _, _, none⟩) (v := ?_) rfl (by kernel_rfl) (by kernel_rfl) (by kernel_rfl) rfl (fun _ _ _ h => h) (Or.inl ⟨by rfl, ?_⟩) ?_
          rotate_left; · intro w0 _; go_simp; try with_reducible rfl
          try simp only [Act.put, List.setIfInBounds_toArray, List.set_cons_zero, List.set_cons_succ]
          refine Go_.take (i := 14) (oi := ⟨some 40, Op.binOp BinOp.add 3 (Operand.tmp 39) (Operand.const (Value.int IntKind.i64 1)) 3, 3, _, _, none⟩) (v := ?_) rfl (by kernel_rfl) (by kernel_rfl) (by kernel_rfl) rfl (fun _ _ _ h => h) (Or.inl ⟨by rfl, ?_⟩) ?_
          rotate_left; · intro w0 _; go_simp; try with_reducible rfl
          try simp only [Act.put, List.setIfInBounds_toArray, List.set_cons_zero, List.set_cons_succ]
          refine Go_.take (i := 15) (oi := ⟨some 41, Op.binOp BinOp.rem 3 (Operand.tmp 40) (Operand.const (Value.int IntKind.i64 8)) 3, 3, _, _, none⟩) (v := ?_) rfl (by kernel_rfl) (by kernel_rfl) (by kernel_rfl) rfl (fun _ _ _ h => h) (Or.inl ⟨by rfl, ?_⟩) ?_
          rotate_left; · intro w0 _; go_simp; try with_reducible rfl
          try simp only [Act.put, List.setIfInBounds_toArray, List.set_cons_zero, List.set_cons_succ]
          refine Go_.take (i := 16) (oi := ⟨some 42, Op.indexAddr 26 (Operand.tmp 4) (Operand.tmp 41), 0, _, _, none⟩) (v := ?_) rfl (by kernel_rfl) (by kernel_rfl) (by kernel_rfl) rfl (fun _ _ _ h => h) (Or.inl ⟨by rfl, ?_⟩) ?_
          rotate_left; · intro w0 _; go_simp; try with_reducible rfl
          try simp only [Act.put, List.setIfInBounds_toArray, List.set_cons_zero, List.set_cons_succ]
          refine Go_.take (i := 17) (oi := ⟨some 43, Op.load 5 (Operand.tmp 42), 5, _, _, none⟩) (v := ?_) rfl (by kernel_rfl) (by kernel_rfl) (by kernel_rfl) rfl (fun _ _ _ h => h) (Or.inl ⟨by rfl, ?_⟩) ?_
          rotate_left; · intro w0 hS; obtain ⟨hS, hzz, hW⟩ := hS; have h8 := hS.eight; go_simp; try with_reducible rfl
          try simp only [Act.put, List.setIfInBounds_toArray, List.set_cons_zero, List.set_cons_succ]
          refine Go_.take (i := 18) (oi := ⟨some 44, Op.convert 5 22 (Operand.tmp 43), 22, _, _, none⟩) (v := ?_) rfl (by kernel_rfl) (by kernel_rfl) (by kernel_rfl) rfl (fun _ _ _ h => h) (Or.inl ⟨by rfl, ?_⟩) ?_
          rotate_left; · intro w0 hS; obtain ⟨hS, hzz, hW⟩ := hS; have h8 := hS.eight; go_simp; try with_reducible rfl
          try simp only [Act.put, List.setIfInBounds_toArray, List.set_cons_zero, List.set_cons_succ]
          refine Go_.take (i := 19) (oi := ⟨some 45, Op.binOp BinOp.shl 22 (Operand.tmp 44) (Operand.const (Value.int IntKind.u64 8)) 35, 22, _, _, none⟩) (v := ?_) rfl (by kernel_rfl) (by kernel_rfl) (by kernel_rfl) rfl (fun _ _ _ h => h) (Or.inl ⟨by rfl, ?_⟩) ?_
          rotate_left; · intro w0 _; go_simp; try with_reducible rfl
          try simp only [Act.put, List.setIfInBounds_toArray, List.set_cons_zero, List.set_cons_succ]
          refine Go_.take (i := 20) (oi := ⟨some 46, Op.binOp BinOp.or 22 (Operand.tmp 38) (Operand.tmp 45) 22, 22, _, _, none⟩) (v := ?_) rfl (by kernel_rfl) (by kernel_rfl) (by kernel_rfl) rfl (fun _ _ _ h => h) (Or.inl ⟨by rfl, ?_⟩) ?_
          rotate_left; · intro w0 _; go_simp; try with_reducible rfl
          try simp only [Act.put, List.setIfInBounds_toArray, List.set_cons_zero, List.set_cons_succ]
          refine Go_.step (i := 7) (o := ⟨some 33, Op.convert 9 24 (Operand.tmp 32), 24, _, _, none⟩) (by kernel_rfl) rfl (fun K hT hK => ?_)
          rw [if_pos (by rfl)]
          refine wp_bts (.tmp 32) rfl (by rfl) ?_
          intro c7 w7 hB7 hb7
          refine hK.out _ _ (Till.both ⟨hT.1.1.below hb7 hT.1.1.lt, hT.1.2.1.below hb7 hT.1.2.1.lt, hT.1.2.2.trans (hb7.mono hT.1.2.2.size)⟩ ((hT.2 rfl).below hb7 (hT.2 rfl).lt)) ?_
          clear hT hK K
          refine Go_.step (i := 8) (o := ⟨some 34, Op.call { callee := Callee.value (Operand.func 26), args := #[Operand.tmp 29, Operand.tmp 31, Operand.tmp 33], argTypes := #[22, 22, 24] }, 22, _, _, none⟩) (by kernel_rfl) rfl (fun K hT hK => ?_)
          rw [if_pos (by rfl)]
          go_simp
          refine (key_sum (BitVec.ofNat 32 (5 + 2)) (BitVec.ofNat 32 5) z l hz9 _ _ rfl rfl _ _ _ hl hB7).mono ?_
          rintro e w8 ⟨rfl, rfl⟩
          refine hK.out _ _ (Till.both hT.1 (hT.2 rfl)) ?_
          clear hT hK K
          refine Go_.take (i := 21) (oi := ⟨some 47, Op.binOp BinOp.xor 22 (Operand.tmp 34) (Operand.tmp 46) 22, 22, _, _, none⟩) (v := ?_) rfl (by kernel_rfl) (by kernel_rfl) (by kernel_rfl) rfl (fun _ _ _ h => h) (Or.inl ⟨by rfl, ?_⟩) ?_
          rotate_left; · intro w0 _; go_simp; try with_reducible rfl
          try simp only [Act.put, List.setIfInBounds_toArray, List.set_cons_zero, List.set_cons_succ]
          refine Go_.take (i := 22) (oi := ⟨some 48, Op.indexAddr 28 (Operand.tmp 8) (Operand.tmp 26), 0, _, _, none⟩) (v := ?_) rfl (by kernel_rfl) (by kernel_rfl) (by kernel_rfl) rfl (fun _ _ _ h => h) (Or.inl ⟨by rfl, ?_⟩) ?_
          rotate_left; · intro w0 _; go_simp; try with_reducible rfl
          try simp only [Act.put, List.setIfInBounds_toArray, List.set_cons_zero, List.set_cons_succ]
          refine Go_.step (i := 23) (o := ⟨none, Op.store 22 (Operand.tmp 48) (Operand.tmp 47), 0, _, _, none⟩) (by kernel_rfl) rfl (fun K hT hK => ?_)
          rw [if_pos (by rfl)]
          have h8 := (hT.2 rfl).eight
          have hf := (hT.2 rfl).eightFree
          have hk2 := (hT.2 rfl).set 5 (.int .u32 (W (z ^^^ sw s.s5 s.s6)))
          go_simp
          have hA2 := And.intro (hT.1.1.far (p := ⟨w.heap.size + 1 + 1, 5, none⟩) (by show w.heap.size ≠ w.heap.size + 1 + 1; omega) (.int .u32 (W (z ^^^ sw s.s5 s.s6)))) (And.intro (hT.1.2.1.far (p := ⟨w.heap.size + 1 + 1, 5, none⟩) (by show w.heap.size + 1 ≠ w.heap.size + 1 + 1; omega) (.int .u32 (W (z ^^^ sw s.s5 s.s6)))) (hT.1.2.2.setCell (p := ⟨w.heap.size + 1 + 1, 5, none⟩) (by show w.heap.size ≤ w.heap.size + 1 + 1; omega) (.int .u32 (W (z ^^^ sw s.s5 s.s6)))))
          refine hK.out _ _ (Till.late rfl hA2) ?_
          clear hT hK K
          refine Go_.done (by kernel_rfl) ?_
          have HK := Lib.hid (And.intro hk2 hA2)
          clear hk2 hA2 HS hB7 hb7
          go_wp2_with fail
          go_round
          case rel => exact ⟨6, by omega, by go_num, HK.out.2.1, HK.out.2.2.1, (by have e : (kwK l s 5).vals.set 5 (.int .u32 (W (z ^^^ sw s.s5 s.s6))) = (kwK l s 6).vals := (by rw [hz9.out]; rfl) ; exact e ▸ HK.out.1), HK.out.2.2.2⟩
          case measure => simp [intOf]
        · obtain ⟨z, hz9⟩ : ∃ z, Hid (z = sumW (BitVec.ofNat 32 (6 + 2)) (BitVec.ofNat 32 6) l) := ⟨_, rfl⟩
          have HS := Lib.hid (And.intro hs.drew (And.intro hz.drew (And.intro hb.drew hk.drew)))
          clear hs hz hb hk
          have hi1 : (IntKind.i64.wrap 7).tmod 8 = 7 := by decide
          have hu0 := u32_byte s.s6
          have hu1 := u32_byte s.s7
          have hor := bits_or_sw2 s.s6 s.s7
          refine wp_region_till 23 (fun w' => Holds w' w.heap.size 26 [.int .u8 (s.s0.toNat : Int), .int .u8 (s.s1.toNat : Int), .int .u8 (s.s2.toNat : Int), .int .u8 (s.s3.toNat : Int), .int .u8 (s.s4.toNat : Int), .int .u8 (s.s5.toNat : Int), .int .u8 (s.s6.toNat : Int), .int .u8 (s.s7.toNat : Int)] ∧ Holds w' (w.heap.size + 1) 28 [.int .u32 0, .int .u32 0, .int .u32 0, .int .u32 0, .int .u32 0, .int .u32 0, .int .u32 0, .int .u32 0] ∧ Below w.heap.size w w') (fun w' => Holds w' (w.heap.size + 1 + 1) 28 (kwK l s 6).vals) (by kernel_rfl) (⟨HS.out.1, HS.out.2.1, HS.out.2.2.1⟩) (HS.out.2.2.2) ?_
          show Go_ _ _ _ _ _ _ _ _ _ _ (World.drew _)
          refine Go_.take (i := 0) (oi := ⟨some 26, Op.move (Operand.tmp 9), 3, _, _, none⟩) (v := ?_) rfl (by kernel_rfl) (by kernel_rfl) (by kernel_rfl) rfl (fun _ _ _ h => h) (Or.inl ⟨by rfl, ?_⟩) ?_
          rotate_left; · intro w0 _; go_simp; try with_reducible rfl
          try simp only [Act.put, List.setIfInBounds_toArray, List.set_cons_zero, List.set_cons_succ]
          refine Go_.take (i := 1) (oi := ⟨some 27, Op.move (Operand.tmp 9), 3, _, _, none⟩) (v := ?_) rfl (by kernel_rfl) (by kernel_rfl) (by kernel_rfl) rfl (fun _ _ _ h => h) (Or.inl ⟨by rfl, ?_⟩) ?_
          rotate_left; · intro w0 _; go_simp; try with_reducible rfl
          try simp only [Act.put, List.setIfInBounds_toArray, List.set_cons_zero, List.set_cons_succ]
          refine Go_.take (i := 2) (oi := ⟨some 28, Op.convert 3 22 (Operand.tmp 27), 22, _, _, none⟩) (v := ?_) rfl (by kernel_rfl) (by kernel_rfl) (by kernel_rfl) rfl (fun _ _ _ h => h) (Or.inl ⟨by rfl, ?_⟩) ?_
          rotate_left; · intro w0 hS; obtain ⟨hS, hzz, hW⟩ := hS; have h8 := hS.eight; go_simp; try with_reducible rfl
          try simp only [Act.put, List.setIfInBounds_toArray, List.set_cons_zero, List.set_cons_succ]
          refine Go_.take (i := 3) (oi := ⟨some 29, Op.binOp BinOp.add 22 (Operand.tmp 28) (Operand.const (Value.int IntKind.u32 2)) 22, 22, _, _, none⟩) (v := ?_) rfl (by kernel_rfl) (by kernel_rfl) (by kernel_rfl) rfl (fun _ _ _ h => h) (Or.inl ⟨by rfl, ?_⟩) ?_
          rotate_left; · intro w0 _; go_simp; try with_reducible rfl
          try simp only [Act.put, List.setIfInBounds_toArray, List.set_cons_zero, List.set_cons_succ]
          refine Go_.take (i := 4) (oi := ⟨some 30, Op.move (Operand.tmp 9), 3, _, _, none⟩) (v := ?_) rfl (by kernel_rfl) (by kernel_rfl) (by kernel_rfl) rfl (fun _ _ _ h => h) (Or.inl ⟨by rfl, ?_⟩) ?_
          rotate_left; · intro w0 _; go_simp; try with_reducible rfl
          try simp only [Act.put, List.setIfInBounds_toArray, List.set_cons_zero, List.set_cons_succ]
          refine Go_.take (i := 5) (oi := ⟨some 31, Op.convert 3 22 (Operand.tmp 30), 22, _, _, none⟩) (v := ?_) rfl (by kernel_rfl) (by kernel_rfl) (by kernel_rfl) rfl (fun _ _ _ h => h) (Or.inl ⟨by rfl, ?_⟩) ?_
          rotate_left; · intro w0 hS; obtain ⟨hS, hzz, hW⟩ := hS; have h8 := hS.eight; go_simp; try with_reducible rfl
          try simp only [Act.put, List.setIfInBounds_toArray, List.set_cons_zero, List.set_cons_succ]
          refine Go_.take (i := 6) (oi := ⟨some 32, Op.move (Operand.tmp 0), 9, _, _, none⟩) (v := ?_) rfl (by kernel_rfl) (by kernel_rfl) (by kernel_rfl) rfl (fun _ _ _ h => h) (Or.inl ⟨by rfl, ?_⟩) ?_
          rotate_left; · intro w0 _; go_simp; try with_reducible rfl
          try simp only [Act.put, List.setIfInBounds_toArray, List.set_cons_zero, List.set_cons_succ]
          refine Go_.take (i := 9) (oi := ⟨some 35, Op.move (Operand.tmp 9), 3, _, _, none⟩) (v := ?_) rfl (by kernel_rfl) (by kernel_rfl) (by kernel_rfl) rfl (fun _ _ _ h => h) (Or.inl ⟨by rfl, ?_⟩) ?_
          rotate_left; · intro w0 _; go_simp; try with_reducible rfl
          try simp only [Act.put, List.setIfInBounds_toArray, List.set_cons_zero, List.set_cons_succ]
          refine Go_.take (i := 10) (oi := ⟨some 36, Op.indexAddr 26 (Operand.tmp 4) (Operand.tmp 35), 0, _, _, none⟩) (v := ?_) rfl (by kernel_rfl) (by kernel_rfl) (by kernel_rfl) rfl (fun _ _ _ h => h) (Or.inl ⟨by rfl, ?_⟩) ?_
          rotate_left; · intro w0 _; go_simp; try with_reducible rfl
          try simp only [Act.put, List.setIfInBounds_toArray, List.set_cons_zero, List.set_cons_succ]
          refine Go_.take (i := 11) (oi := ⟨some 37, Op.load 5 (Operand.tmp 36), 5, _, _, none⟩) (v := ?_) rfl (by kernel_rfl) (by kernel_rfl) (by kernel_rfl) rfl (fun _ _ _ h => h) (Or.inl ⟨by rfl, ?_⟩) ?_
          rotate_left; · intro w0 hS; obtain ⟨hS, hzz, hW⟩ := hS; have h8 := hS.eight; go_simp; try with_reducible rfl
          try simp only [Act.put, List.setIfInBounds_toArray, List.set_cons_zero, List.set_cons_succ]
          refine Go_.take (i := 12) (oi := ⟨some 38, Op.convert 5 22 (Operand.tmp 37), 22, _, _, none⟩) (v := ?_) rfl (by kernel_rfl) (by kernel_rfl) (by kernel_rfl) rfl (fun _ _ _ h => h) (Or.inl ⟨by rfl, ?_⟩) ?_
          rotate_left; · intro w0 hS; obtain ⟨hS, hzz, hW⟩ := hS; have h8 := hS.eight; go_simp; try with_reducible rfl
          try simp only [Act.put, List.setIfInBounds_toArray, List.set_cons_zero, List.set_cons_succ]
          refine Go_.take (i := 13) (oi := ⟨some 39, Op.move (Operand.tmp 9), 3, _, _, none⟩) (v := ?_) rfl (by kernel_rfl) (by kernel_rfl) (by kernel_rfl) rfl (fun _ _ _ h => h) (Or.inl ⟨by rfl, ?_⟩) ?_
          rotate_left; · intro w0 _; go_simp; try with_reducible rfl
          try simp only [Act.put, List.setIfInBounds_toArray, List.set_cons_zero, List.set_cons_succ]
          refine Go_.take (i := 14) (oi := ⟨some 40, Op.binOp BinOp.add 3 (Operand.tmp 39) (Operand.const (Value.int IntKind.i64 1)) 3, 3, _, _, none⟩) (v := ?_) rfl (by kernel_rfl) (by kernel_rfl) (by kernel_rfl) rfl (fun _ _ _ h => h) (Or.inl ⟨by rfl, ?_⟩) ?_
          rotate_left; · intro w0 _; go_simp; try with_reducible rfl
          try simp only [Act.put, List.setIfInBounds_toArray, List.set_cons_zero, List.set_cons_succ]
          refine Go_.take (i := 15) (oi := ⟨some 41, Op.binOp BinOp.rem 3 (Operand.tmp 40) (Operand.const (Value.int IntKind.i64 8)) 3, 3, _, _, none⟩) (v := ?_) rfl (by kernel_rfl) (by kernel_rfl) (by kernel_rfl) rfl (fun _ _ _ h => h) (Or.inl ⟨by rfl, ?_⟩) ?_
          rotate_left; · intro w0 _; go_simp; try with_reducible rfl
          try simp only [Act.put, List.setIfInBounds_toArray, List.set_cons_zero, List.set_cons_succ]
          refine Go_.take (i := 16) (oi := ⟨some 42, Op.indexAddr 26 (Operand.tmp 4) (Operand.tmp 41), 0, _, _, none⟩) (v := ?_) rfl (by kernel_rfl) (by kernel_rfl) (by kernel_rfl) rfl (fun _ _ _ h => h) (Or.inl ⟨by rfl, ?_⟩) ?_
          rotate_left; · intro w0 _; go_simp; try with_reducible rfl
          try simp only [Act.put, List.setIfInBounds_toArray, List.set_cons_zero, List.set_cons_succ]
          refine Go_.take (i := 17) (oi := ⟨some 43, Op.load 5 (Operand.tmp 42), 5, _, _, none⟩) (v := ?_) rfl (by kernel_rfl) (by kernel_rfl) (by kernel_rfl) rfl (fun _ _ _ h => h) (Or.inl ⟨by rfl, ?_⟩) ?_
          rotate_left; · intro w0 hS; obtain ⟨hS, hzz, hW⟩ := hS; have h8 := hS.eight; go_simp; try with_reducible rfl
          try simp only [Act.put, List.setIfInBounds_toArray, List.set_cons_zero, List.set_cons_succ]
          refine Go_.take (i := 18) (oi := ⟨some 44, Op.convert 5 22 (Operand.tmp 43), 22, _, _, none⟩) (v := ?_) rfl (by kernel_rfl) (by kernel_rfl) (by kernel_rfl) rfl (fun _ _ _ h => h) (Or.inl ⟨by rfl, ?_⟩) ?_
          rotate_left; · intro w0 hS; obtain ⟨hS, hzz, hW⟩ := hS; have h8 := hS.eight; go_simp; try with_reducible rfl
          try simp only [Act.put, List.setIfInBounds_toArray, List.set_cons_zero, List.set_cons_succ]
          refine Go_.take (i := 19) (oi := ⟨some 45, Op.binOp BinOp.shl 22 (Operand.tmp 44) (Operand.const (Value.int IntKind.u64 8)) 35, 22, _, _, none⟩) (v := ?_) rfl (by kernel_rfl) (by kernel_rfl) (by kernel_rfl) rfl (fun _ _ _ h => h) (Or.inl ⟨by rfl, ?_⟩) ?_
          rotate_left; · intro w0 _; go_simp; try with_reducible rfl
          try simp only [Act.put, List.setIfInBounds_toArray, List.set_cons_zero, List.set_cons_succ]
          refine Go_.take (i := 20) (oi := ⟨some 46, Op.binOp BinOp.or 22 (Operand.tmp 38) (Operand.tmp 45) 22, 22, _, _, none⟩) (v := ?_) rfl (by kernel_rfl) (by kernel_rfl) (by kernel_rfl) rfl (fun _ _ _ h => h) (Or.inl ⟨by rfl, ?_⟩) ?_
          rotate_left; · intro w0 _; go_simp; try with_reducible rfl
          try simp only [Act.put, List.setIfInBounds_toArray, List.set_cons_zero, List.set_cons_succ]
          refine Go_.step (i := 7) (o := ⟨some 33, Op.convert 9 24 (Operand.tmp 32), 24, _, _, none⟩) (by kernel_rfl) rfl (fun K hT hK => ?_)
          rw [if_pos (by rfl)]
          refine wp_bts (.tmp 32) rfl (by rfl) ?_
          intro c7 w7 hB7 hb7
          refine hK.out _ _ (Till.both ⟨hT.1.1.below hb7 hT.1.1.lt, hT.1.2.1.below hb7 hT.1.2.1.lt, hT.1.2.2.trans (hb7.mono hT.1.2.2.size)⟩ ((hT.2 rfl).below hb7 (hT.2 rfl).lt)) ?_
          clear hT hK K
          refine Go_.step (i := 8) (o := ⟨some 34, Op.call { callee := Callee.value (Operand.func 26), args := #[Operand.tmp 29, Operand.tmp 31, Operand.tmp 33], argTypes := #[22, 22, 24] }, 22, _, _, none⟩) (by kernel_rfl) rfl (fun K hT hK => ?_)
          rw [if_pos (by rfl)]
          go_simp
          refine (key_sum (BitVec.ofNat 32 (6 + 2)) (BitVec.ofNat 32 6) z l hz9 _ _ rfl rfl _ _ _ hl hB7).mono ?_
          rintro e w8 ⟨rfl, rfl⟩
          refine hK.out _ _ (Till.both hT.1 (hT.2 rfl)) ?_
          clear hT hK K
          refine Go_.take (i := 21) (oi := ⟨some 47, Op.binOp BinOp.xor 22 (Operand.tmp 34) (Operand.tmp 46) 22, 22, _, _, none⟩) (v := ?_) rfl (by kernel_rfl) (by kernel_rfl) (by kernel_rfl) rfl (fun _ _ _ h => h) (Or.inl ⟨by rfl, ?_⟩) ?_
          rotate_left; · intro w0 _; go_simp; try with_reducible rfl
          try simp only [Act.put, List.setIfInBounds_toArray, List.set_cons_zero, List.set_cons_succ]
          refine Go_.take (i := 22) (oi := ⟨some 48, Op.indexAddr 28 (Operand.tmp 8) (Operand.tmp 26), 0, _, _, none⟩) (v := ?_) rfl (by kernel_rfl) (by kernel_rfl) (by kernel_rfl) rfl (fun _ _ _ h => h) (Or.inl ⟨by rfl, ?_⟩) ?_
          rotate_left; · intro w0 _; go_simp; try with_reducible rfl
          try simp only [Act.put, List.setIfInBounds_toArray, List.set_cons_zero, List.set_cons_succ]
          refine Go_.step (i := 23) (o := ⟨none, Op.store 22 (Operand.tmp 48) (Operand.tmp 47), 0, _, _, none⟩) (by kernel_rfl) rfl (fun K hT hK => ?_)
          rw [if_pos (by rfl)]
          have h8 := (hT.2 rfl).eight
          have hf := (hT.2 rfl).eightFree
          have hk2 := (hT.2 rfl).set 6 (.int .u32 (W (z ^^^ sw s.s6 s.s7)))
          go_simp
          have hA2 := And.intro (hT.1.1.far (p := ⟨w.heap.size + 1 + 1, 6, none⟩) (by show w.heap.size ≠ w.heap.size + 1 + 1; omega) (.int .u32 (W (z ^^^ sw s.s6 s.s7)))) (And.intro (hT.1.2.1.far (p := ⟨w.heap.size + 1 + 1, 6, none⟩) (by show w.heap.size + 1 ≠ w.heap.size + 1 + 1; omega) (.int .u32 (W (z ^^^ sw s.s6 s.s7)))) (hT.1.2.2.setCell (p := ⟨w.heap.size + 1 + 1, 6, none⟩) (by show w.heap.size ≤ w.heap.size + 1 + 1; omega) (.int .u32 (W (z ^^^ sw s.s6 s.s7)))))
          refine hK.out _ _ (Till.late rfl hA2) ?_
          clear hT hK K
          refine Go_.done (by kernel_rfl) ?_
          have HK := Lib.hid (And.intro hk2 hA2)
          clear hk2 hA2 HS hB7 hb7
          go_wp2_with fail
          go_round
          case rel => exact ⟨7, by omega, by go_num, HK.out.2.1, HK.out.2.2.1, (by have e : (kwK l s 6).vals.set 6 (.int .u32 (W (z ^^^ sw s.s6 s.s7))) = (kwK l s 7).vals := (by rw [hz9.out]; rfl) ; exact e ▸ HK.out.1), HK.out.2.2.2⟩
          case measure => simp [intOf]
        · obtain ⟨z, hz9⟩ : ∃ z, Hid (z = sumW (BitVec.ofNat 32 (7 + 2)) (BitVec.ofNat 32 7) l) := ⟨_, rfl⟩
          have HS := Lib.hid (And.intro hs.drew (And.intro hz.drew (And.intro hb.drew hk.drew)))
          clear hs hz hb hk
          have hi1 : (IntKind.i64.wrap 8).tmod 8 = 0 := by decide
          have hu0 := u32_byte s.s7
          have hu1 := u32_byte s.s0
          have hor := bits_or_sw2 s.s7 s.s0
          refine wp_region_till 23 (fun w' => Holds w' w.heap.size 26 [.int .u8 (s.s0.toNat : Int), .int .u8 (s.s1.toNat : Int), .int .u8 (s.s2.toNat : Int), .int .u8 (s.s3.toNat : Int), .int .u8 (s.s4.toNat : Int), .int .u8 (s.s5.toNat : Int), .int .u8 (s.s6.toNat : Int), .int .u8 (s.s7.toNat : Int)] ∧ Holds w' (w.heap.size + 1) 28 [.int .u32 0, .int .u32 0, .int .u32 0, .int .u32 0, .int .u32 0, .int .u32 0, .int .u32 0, .int .u32 0] ∧ Below w.heap.size w w') (fun w' => Holds w' (w.heap.size + 1 + 1) 28 (kwK l s 7).vals) (by kernel_rfl) (⟨HS.out.1, HS.out.2.1, HS.out.2.2.1⟩) (HS.out.2.2.2) ?_
          show Go_ _ _ _ _ _ _ _ _ _ _ (World.drew _)
          refine Go_.take (i := 0) (oi := ⟨some 26, Op.move (Operand.tmp 9), 3, _, _, none⟩) (v := ?_) rfl (by kernel_rfl) (by kernel_rfl) (by kernel_rfl) rfl (fun _ _ _ h => h) (Or.inl ⟨by rfl, ?_⟩) ?_
          rotate_left; · intro w0 _; go_simp; try with_reducible rfl
          try simp only [Act.put, List.setIfInBounds_toArray, List.set_cons_zero, List.set_cons_succ]
          refine Go_.take (i := 1) (oi := ⟨some 27, Op.move (Operand.tmp 9), 3, _, _, none⟩) (v := ?_) rfl (by kernel_rfl) (by kernel_rfl) (by kernel_rfl) rfl (fun _ _ _ h => h) (Or.inl ⟨by rfl, ?_⟩) ?_
          rotate_left; · intro w0 _; go_simp; try with_reducible rfl
          try simp only [Act.put, List.setIfInBounds_toArray, List.set_cons_zero, List.set_cons_succ]
          refine Go_.take (i := 2) (oi := ⟨some 28, Op.convert 3 22 (Operand.tmp 27), 22, _, _, none⟩) (v := ?_) rfl (by kernel_rfl) (by kernel_rfl) (by kernel_rfl) rfl (fun _ _ _ h => h) (Or.inl ⟨by rfl, ?_⟩) ?_
          rotate_left; · intro w0 hS; obtain ⟨hS, hzz, hW⟩ := hS; have h8 := hS.eight; go_simp; try with_reducible rfl
          try simp only [Act.put, List.setIfInBounds_toArray, List.set_cons_zero, List.set_cons_succ]
          refine Go_.take (i := 3) (oi := ⟨some 29, Op.binOp BinOp.add 22 (Operand.tmp 28) (Operand.const (Value.int IntKind.u32 2)) 22, 22, _, _, none⟩) (v := ?_) rfl (by kernel_rfl) (by kernel_rfl) (by kernel_rfl) rfl (fun _ _ _ h => h) (Or.inl ⟨by rfl, ?_⟩) ?_
          rotate_left; · intro w0 _; go_simp; try with_reducible rfl
          try simp only [Act.put, List.setIfInBounds_toArray, List.set_cons_zero, List.set_cons_succ]
          refine Go_.take (i := 4) (oi := ⟨some 30, Op.move (Operand.tmp 9), 3, _, _, none⟩) (v := ?_) rfl (by kernel_rfl) (by kernel_rfl) (by kernel_rfl) rfl (fun _ _ _ h => h) (Or.inl ⟨by rfl, ?_⟩) ?_
          rotate_left; · intro w0 _; go_simp; try with_reducible rfl
          try simp only [Act.put, List.setIfInBounds_toArray, List.set_cons_zero, List.set_cons_succ]
          refine Go_.take (i := 5) (oi := ⟨some 31, Op.convert 3 22 (Operand.tmp 30), 22, _, _, none⟩) (v := ?_) rfl (by kernel_rfl) (by kernel_rfl) (by kernel_rfl) rfl (fun _ _ _ h => h) (Or.inl ⟨by rfl, ?_⟩) ?_
          rotate_left; · intro w0 hS; obtain ⟨hS, hzz, hW⟩ := hS; have h8 := hS.eight; go_simp; try with_reducible rfl
          try simp only [Act.put, List.setIfInBounds_toArray, List.set_cons_zero, List.set_cons_succ]
          refine Go_.take (i := 6) (oi := ⟨some 32, Op.move (Operand.tmp 0), 9, _, _, none⟩) (v := ?_) rfl (by kernel_rfl) (by kernel_rfl) (by kernel_rfl) rfl (fun _ _ _ h => h) (Or.inl ⟨by rfl, ?_⟩) ?_
          rotate_left; · intro w0 _; go_simp; try with_reducible rfl
          try simp only [Act.put, List.setIfInBounds_toArray, List.set_cons_zero, List.set_cons_succ]
          refine Go_.take (i := 9) (oi := ⟨some 35, Op.move (Operand.tmp 9), 3, _, _, none⟩) (v := ?_) rfl (by kernel_rfl) (by kernel_rfl) (by kernel_rfl) rfl (fun _ _ _ h => h) (Or.inl ⟨by rfl, ?_⟩) ?_
          rotate_left; · intro w0 _; go_simp; try with_reducible rfl
          try simp only [Act.put, List.setIfInBounds_toArray, List.set_cons_zero, List.set_cons_succ]
          refine Go_.take (i := 10) (oi := ⟨some 36, Op.indexAddr 26 (Operand.tmp 4) (Operand.tmp 35), 0, _, _, none⟩) (v := ?_) rfl (by kernel_rfl) (by kernel_rfl) (by kernel_rfl) rfl (fun _ _ _ h => h) (Or.inl ⟨by rfl, ?_⟩) ?_
          rotate_left; · intro w0 _; go_simp; try with_reducible rfl
          try simp only [Act.put, List.setIfInBounds_toArray, List.set_cons_zero, List.set_cons_succ]
          refine Go_.take (i := 11) (oi := ⟨some 37, Op.load 5 (Operand.tmp 36), 5, _, _, none⟩) (v := ?_) rfl (by kernel_rfl) (by kernel_rfl) (by kernel_rfl) rfl (fun _ _ _ h => h) (Or.inl ⟨by rfl, ?_⟩) ?_
          rotate_left; · intro w0 hS; obtain ⟨hS, hzz, hW⟩ := hS; have h8 := hS.eight; go_simp; try with_reducible rfl
          try simp only [Act.put, List.setIfInBounds_toArray, List.set_cons_zero, List.set_cons_succ]
          refine Go_.take (i := 12) (oi := ⟨some 38, Op.convert 5 22 (Operand.tmp 37), 22, _, _, none⟩) (v := ?_) rfl (by kernel_rfl) (by kernel_rfl) (by kernel_rfl) rfl (fun _ _ _ h => h) (Or.inl ⟨by rfl, ?_⟩) ?_
          rotate_left; · intro w0 hS; obtain ⟨hS, hzz, hW⟩ := hS; have h8 := hS.eight; go_simp; try with_reducible rfl
          try simp only [Act.put, List.setIfInBounds_toArray, List.set_cons_zero, List.set_cons_succ]
          refine Go_.take (i := 13) (oi := ⟨some 39, Op.move (Operand.tmp 9), 3, _, _, none⟩) (v := ?_) rfl (by kernel_rfl) (by kernel_rfl) (by kernel_rfl) rfl (fun _ _ _ h => h) (Or.inl ⟨by rfl, ?_⟩) ?_
          rotate_left; · intro w0 _; go_simp; try with_reducible rfl
          try simp only [Act.put, List.setIfInBounds_toArray, List.set_cons_zero, List.set_cons_succ]
          refine Go_.take (i := 14) (oi := ⟨some 40, Op.binOp BinOp.add 3 (Operand.tmp 39) (Operand.const (Value.int IntKind.i64 1)) 3, 3, _, _, none⟩) (v := ?_) rfl (by kernel_rfl) (by kernel_rfl) (by kernel_rfl) rfl (fun _ _ _ h => h) (Or.inl ⟨by rfl, ?_⟩) ?_
          rotate_left; · intro w0 _; go_simp; try with_reducible rfl
          try simp only [Act.put, List.setIfInBounds_toArray, List.set_cons_zero, List.set_cons_succ]
          refine Go_.take (i := 15) (oi := ⟨some 41, Op.binOp BinOp.rem 3 (Operand.tmp 40) (Operand.const (Value.int IntKind.i64 8)) 3, 3, _, _, none⟩) (v := ?_) rfl (by kernel_rfl) (by kernel_rfl) (by kernel_rfl) rfl (fun _ _ _ h => h) (Or.inl ⟨by rfl, ?_⟩) ?_
          rotate_left; · intro w0 _; go_simp; try with_reducible rfl
          try simp only [Act.put, List.setIfInBounds_toArray, List.set_cons_zero, List.set_cons_succ]
          refine Go_.take (i := 16) (oi := ⟨some 42, Op.indexAddr 26 (Operand.tmp 4) (Operand.tmp 41), 0, _, _, none⟩) (v := ?_) rfl (by kernel_rfl) (by kernel_rfl) (by kernel_rfl) rfl (fun _ _ _ h => h) (Or.inl ⟨by rfl, ?_⟩) ?_
          rotate_left; · intro w0 _; go_simp; try with_reducible rfl
          try simp only [Act.put, List.setIfInBounds_toArray, List.set_cons_zero, List.set_cons_succ]
          refine Go_.take (i := 17) (oi := ⟨some 43, Op.load 5 (Operand.tmp 42), 5, _, _, none⟩) (v := ?_) rfl (by kernel_rfl) (by kernel_rfl) (by kernel_rfl) rfl (fun _ _ _ h => h) (Or.inl ⟨by rfl, ?_⟩) ?_
          rotate_left; · intro w0 hS; obtain ⟨hS, hzz, hW⟩ := hS; have h8 := hS.eight; go_simp; try with_reducible rfl
          try simp only [Act.put, List.setIfInBounds_toArray, List.set_cons_zero, List.set_cons_succ]
          refine Go_.take (i := 18) (oi := ⟨some 44, Op.convert 5 22 (Operand.tmp 43), 22, _, _, none⟩) (v := ?_) rfl (by kernel_rfl) (by kernel_rfl) (by kernel_rfl) rfl (fun _ _ _ h => h) (Or.inl ⟨by rfl, ?_⟩) ?_
          rotate_left; · intro w0 hS; obtain ⟨hS, hzz, hW⟩ := hS; have h8 := hS.eight; go_simp; try with_reducible rfl
          try simp only [Act.put, List.setIfInBounds_toArray, List.set_cons_zero, List.set_cons_succ]
          refine Go_.take (i := 19) (oi := ⟨some 45, Op.binOp BinOp.shl 22 (Operand.tmp 44) (Operand.const (Value.int IntKind.u64 8)) 35, 22, _, _, none⟩) (v := ?_) rfl (by kernel_rfl) (by kernel_rfl) (by kernel_rfl) rfl (fun _ _ _ h => h) (Or.inl ⟨by rfl, ?_⟩) ?_
          rotate_left; · intro w0 _; go_simp; try with_reducible rfl
          try simp only [Act.put, List.setIfInBounds_toArray, List.set_cons_zero, List.set_cons_succ]
          refine Go_.take (i := 20) (oi := ⟨some 46, Op.binOp BinOp.or 22 (Operand.tmp 38) (Operand.tmp 45) 22, 22, _, _, none⟩) (v := ?_) rfl (by kernel_rfl) (by kernel_rfl) (by kernel_rfl) rfl (fun _ _ _ h => h) (Or.inl ⟨by rfl, ?_⟩) ?_
          rotate_left; · intro w0 _; go_simp; try with_reducible rfl
          try simp only [Act.put, List.setIfInBounds_toArray, List.set_cons_zero, List.set_cons_succ]
          refine Go_.step (i := 7) (o := ⟨some 33, Op.convert 9 24 (Operand.tmp 32), 24, _, _, none⟩) (by kernel_rfl) rfl (fun K hT hK => ?_)
          rw [if_pos (by rfl)]
          refine wp_bts (.tmp 32) rfl (by rfl) ?_
          intro c7 w7 hB7 hb7
          refine hK.out _ _ (Till.both ⟨hT.1.1.below hb7 hT.1.1.lt, hT.1.2.1.below hb7 hT.1.2.1.lt, hT.1.2.2.trans (hb7.mono hT.1.2.2.size)⟩ ((hT.2 rfl).below hb7 (hT.2 rfl).lt)) ?_
          clear hT hK K
          refine Go_.step (i := 8) (o := ⟨some 34, Op.call { callee := Callee.value (Operand.func 26), args := #[Operand.tmp 29, Operand.tmp 31, Operand.tmp 33], argTypes := #[22, 22, 24] }, 22, _, _, none⟩) (by kernel_rfl) rfl (fun K hT hK => ?_)
          rw [if_pos (by rfl)]
          go_simp
          refine (key_sum (BitVec.ofNat 32 (7 + 2)) (BitVec.ofNat 32 7) z l hz9 _ _ rfl rfl _ _ _ hl hB7).mono ?_
          rintro e w8 ⟨rfl, rfl⟩
          refine hK.out _ _ (Till.both hT.1 (hT.2 rfl)) ?_
          clear hT hK K
          refine Go_.take (i := 21) (oi := ⟨some 47, Op.binOp BinOp.xor 22 (Operand.tmp 34) (Operand.tmp 46) 22, 22, _, _, none⟩) (v := ?_) rfl (by kernel_rfl) (by kernel_rfl) (by kernel_rfl) rfl (fun _ _ _ h => h) (Or.inl ⟨by rfl, ?_⟩) ?_
          rotate_left; · intro w0 _; go_simp; try with_reducible rfl
          try simp only [Act.put, List.setIfInBounds_toArray, List.set_cons_zero, List.set_cons_succ]
          refine Go_.take (i := 22) (oi := ⟨some 48, Op.indexAddr 28 (Operand.tmp 8) (Operand.tmp 26), 0, _, _, none⟩) (v := ?_) rfl (by kernel_rfl) (by kernel_rfl) (by kernel_rfl) rfl (fun _ _ _ h => h) (Or.inl ⟨by rfl, ?_⟩) ?_
          rotate_left; · intro w0 _; go_simp; try with_reducible rfl
          try simp only [Act.put, List.setIfInBounds_toArray, List.set_cons_zero, List.set_cons_succ]
          refine Go_.step (i := 23) (o := ⟨none, Op.store 22 (Operand.tmp 48) (Operand.tmp 47), 0, _, _, none⟩) (by kernel_rfl) rfl (fun K hT hK => ?_)
          rw [if_pos (by rfl)]
          have h8 := (hT.2 rfl).eight
          have hf := (hT.2 rfl).eightFree
          have hk2 := (hT.2 rfl).set 7 (.int .u32 (W (z ^^^ sw s.s7 s.s0)))
          go_simp
          have hA2 := And.intro (hT.1.1.far (p := ⟨w.heap.size + 1 + 1, 7, none⟩) (by show w.heap.size ≠ w.heap.size + 1 + 1; omega) (.int .u32 (W (z ^^^ sw s.s7 s.s0)))) (And.intro (hT.1.2.1.far (p := ⟨w.heap.size + 1 + 1, 7, none⟩) (by show w.heap.size + 1 ≠ w.heap.size + 1 + 1; omega) (.int .u32 (W (z ^^^ sw s.s7 s.s0)))) (hT.1.2.2.setCell (p := ⟨w.heap.size + 1 + 1, 7, none⟩) (by show w.heap.size ≤ w.heap.size + 1 + 1; omega) (.int .u32 (W (z ^^^ sw s.s7 s.s0)))))
          refine hK.out _ _ (Till.late rfl hA2) ?_
          clear hT hK K
          refine Go_.done (by kernel_rfl) ?_
          have HK := Lib.hid (And.intro hk2 hA2)
          clear hk2 hA2 HS hB7 hb7
          go_wp2_with fail
          go_round
          case rel => exact ⟨8, by omega, by go_num, HK.out.2.1, HK.out.2.2.1, (by have e : (kwK l s 7).vals.set 7 (.int .u32 (W (z ^^^ sw s.s7 s.s0))) = (kwK l s 8).vals := (by rw [hz9.out]; rfl) ; exact e ▸ HK.out.1), HK.out.2.2.2⟩
          case measure => simp [intOf]
      · obtain rfl : j = 8 := by omega
        go_wp2_with fail
        go_step3
        rename_i hkk
        refine hkk _ _ ?_
        exact hp.out _ _ ⟨0, ⟨by omega, hz, hk, hb⟩, ⟨rfl, rfl, rfl, rfl, by simp, trivial⟩, rfl⟩
  · rintro a' w1 ⟨m, ⟨hm, hz, hk, hb⟩, hf⟩
    clear hs0 hz0 hk0 hb0
    refine pass_frame hf ?_
    intro u0 u1 u3 u5 u7 u9 u11 u12 u13 u14 u15 u16 u17 u18 u19 u20 u21 u22 u23 u24 u25 u26 u27 u28 u29 u30 u31 u32 u33 u34 u35 u36 u37 u38 u39 u40 u41 u42 u43 u44 u45 u46 u47 u48 u49 u50 u51 u52 u53 u54 u55 u56 u57 u58 u59 u60 u61 u62 u63
    have hlt1 := hk.lt
    dsimp only [AllFit, List.replicate_zero]
    generalize hKK : krun m (kwK l s 8) = K at *
    have HKK := Lib.hid hKK
    clear hKK
    have k8 := hk.eight
    have kf := hk.eightFree
    by_cases hlt : m < n
    · obtain ⟨M, hM⟩ : ∃ M, Hid (M = mix K) := ⟨_, rfl⟩
      obtain ⟨q, hq, hx⟩ : ∃ q : BitVec 32, Hid (q = BitVec.ofNat 32 (m + 1)) ∧ bits .xor .u32 (W M.k7) ((m : Int) + 1) = W (M.k7 ^^^ q) := ⟨_, rfl, by
        have e : ((m : Int) + 1) = W (BitVec.ofNat 32 (m + 1)) := by unfold W; rw [BitVec.toNat_ofNat]; omega
        rw [e, bits_xor_W]⟩
      go_wp2_with fail
      refine (ko_mix K M hM _).mono ?_
      rintro e w2 ⟨rfl, hb2⟩
      have hk2 := hk.below hb2 hk.lt
      have hz2 := hz.below hb2 hz.lt
      have hbb := hb.trans (hb2.mono hb.size)
      have hs2 := hb2.size
      have k8 := hk2.eight
      have kf := hk2.eightFree
      have hg3 : Holds ((((((((w2.setCell ⟨w.heap.size + 1 + 1, 0, none⟩ (.int .u32 (W M.k0))).setCell ⟨w.heap.size + 1 + 1, 1, none⟩ (.int .u32 (W M.k1))).setCell ⟨w.heap.size + 1 + 1, 2, none⟩ (.int .u32 (W M.k2))).setCell ⟨w.heap.size + 1 + 1, 3, none⟩ (.int .u32 (W M.k3))).setCell ⟨w.heap.size + 1 + 1, 4, none⟩ (.int .u32 (W M.k4))).setCell ⟨w.heap.size + 1 + 1, 5, none⟩ (.int .u32 (W M.k5))).setCell ⟨w.heap.size + 1 + 1, 6, none⟩ (.int .u32 (W M.k6))).setCell ⟨w.heap.size + 1 + 1, 7, none⟩ (.int .u32 (W M.k7))) (w.heap.size + 1 + 1) 28 [.int .u32 (W M.k0), .int .u32 (W M.k1), .int .u32 (W M.k2), .int .u32 (W M.k3), .int .u32 (W M.k4), .int .u32 (W M.k5), .int .u32 (W M.k6), .int .u32 (W M.k7)] := Holds.set8 (K := K) hk2
      have hb3 : Below w.heap.size w ((((((((w2.setCell ⟨w.heap.size + 1 + 1, 0, none⟩ (.int .u32 (W M.k0))).setCell ⟨w.heap.size + 1 + 1, 1, none⟩ (.int .u32 (W M.k1))).setCell ⟨w.heap.size + 1 + 1, 2, none⟩ (.int .u32 (W M.k2))).setCell ⟨w.heap.size + 1 + 1, 3, none⟩ (.int .u32 (W M.k3))).setCell ⟨w.heap.size + 1 + 1, 4, none⟩ (.int .u32 (W M.k4))).setCell ⟨w.heap.size + 1 + 1, 5, none⟩ (.int .u32 (W M.k5))).setCell ⟨w.heap.size + 1 + 1, 6, none⟩ (.int .u32 (W M.k6))).setCell ⟨w.heap.size + 1 + 1, 7, none⟩ (.int .u32 (W M.k7))) := below_set8 hbb (by omega)
      have hz3 : Holds ((((((((w2.setCell ⟨w.heap.size + 1 + 1, 0, none⟩ (.int .u32 (W M.k0))).setCell ⟨w.heap.size + 1 + 1, 1, none⟩ (.int .u32 (W M.k1))).setCell ⟨w.heap.size + 1 + 1, 2, none⟩ (.int .u32 (W M.k2))).setCell ⟨w.heap.size + 1 + 1, 3, none⟩ (.int .u32 (W M.k3))).setCell ⟨w.heap.size + 1 + 1, 4, none⟩ (.int .u32 (W M.k4))).setCell ⟨w.heap.size + 1 + 1, 5, none⟩ (.int .u32 (W M.k5))).setCell ⟨w.heap.size + 1 + 1, 6, none⟩ (.int .u32 (W M.k6))).setCell ⟨w.heap.size + 1 + 1, 7, none⟩ (.int .u32 (W M.k7))) (w.heap.size + 1) 28 [.int .u32 0, .int .u32 0, .int .u32 0, .int .u32 0, .int .u32 0, .int .u32 0, .int .u32 0, .int .u32 0] := far8 hz2 (by omega)
      have HG := Lib.hid (And.intro hg3 (And.intro hz3 hb3))
      clear hg3 hz3 hb3 hk hb hz hk2 hz2 hbb hb2
      go_wp2_with fail
      generalize ((((((((w2.setCell ⟨w.heap.size + 1 + 1, 0, none⟩ (.int .u32 (W M.k0))).setCell ⟨w.heap.size + 1 + 1, 1, none⟩ (.int .u32 (W M.k1))).setCell ⟨w.heap.size + 1 + 1, 2, none⟩ (.int .u32 (W M.k2))).setCell ⟨w.heap.size + 1 + 1, 3, none⟩ (.int .u32 (W M.k3))).setCell ⟨w.heap.size + 1 + 1, 4, none⟩ (.int .u32 (W M.k4))).setCell ⟨w.heap.size + 1 + 1, 5, none⟩ (.int .u32 (W M.k5))).setCell ⟨w.heap.size + 1 + 1, 6, none⟩ (.int .u32 (W M.k6))).setCell ⟨w.heap.size + 1 + 1, 7, none⟩ (.int .u32 (W M.k7))) = wx at HG ⊢
      obtain ⟨hg3, hz3, hb3⟩ := HG.out
      have hk4 := hg3.set 7 (.int .u32 (W (M.k7 ^^^ q)))
      have hz4 := hz3.far (p := ⟨w.heap.size + 1 + 1, 7, none⟩) (by show w.heap.size + 1 ≠ w.heap.size + 1 + 1; omega) (.int .u32 (W (M.k7 ^^^ q)))
      have hb4 := hb3.setCell (p := ⟨w.heap.size + 1 + 1, 7, none⟩) (by show w.heap.size ≤ w.heap.size + 1 + 1; omega) (.int .u32 (W (M.k7 ^^^ q)))
      have e4 : [.int .u32 (W M.k0), .int .u32 (W M.k1), .int .u32 (W M.k2), .int .u32 (W M.k3), .int .u32 (W M.k4), .int .u32 (W M.k5), .int .u32 (W M.k6), .int .u32 (W M.k7)].set 7 (.int .u32 (W (M.k7 ^^^ q))) = (krun (m + 1) (kwK l s 8)).vals := by
        rw [krun, HKK.out, ← hM.out, hq.out]; rfl
      rw [e4] at hk4
      go_step3
      exact ⟨rfl, ⟨m + 1, ⟨by omega, hz4, hk4, hb4⟩, ⟨rfl, rfl, rfl, rfl, by simp, trivial⟩, rfl⟩, by simp [intOf]; omega⟩
    · have z8 := hz.eight
      have zf := hz.eightFree
      have hg3 : Holds ((((((((w1.setCell ⟨w.heap.size + 1, 0, none⟩ (.int .u32 (W K.k0))).setCell ⟨w.heap.size + 1, 1, none⟩ (.int .u32 (W K.k1))).setCell ⟨w.heap.size + 1, 2, none⟩ (.int .u32 (W K.k2))).setCell ⟨w.heap.size + 1, 3, none⟩ (.int .u32 (W K.k3))).setCell ⟨w.heap.size + 1, 4, none⟩ (.int .u32 (W K.k4))).setCell ⟨w.heap.size + 1, 5, none⟩ (.int .u32 (W K.k5))).setCell ⟨w.heap.size + 1, 6, none⟩ (.int .u32 (W K.k6))).setCell ⟨w.heap.size + 1, 7, none⟩ (.int .u32 (W K.k7))) (w.heap.size + 1) 28 [.int .u32 (W K.k0), .int .u32 (W K.k1), .int .u32 (W K.k2), .int .u32 (W K.k3), .int .u32 (W K.k4), .int .u32 (W K.k5), .int .u32 (W K.k6), .int .u32 (W K.k7)] := set8g hz
      have hb3 : Below w.heap.size w ((((((((w1.setCell ⟨w.heap.size + 1, 0, none⟩ (.int .u32 (W K.k0))).setCell ⟨w.heap.size + 1, 1, none⟩ (.int .u32 (W K.k1))).setCell ⟨w.heap.size + 1, 2, none⟩ (.int .u32 (W K.k2))).setCell ⟨w.heap.size + 1, 3, none⟩ (.int .u32 (W K.k3))).setCell ⟨w.heap.size + 1, 4, none⟩ (.int .u32 (W K.k4))).setCell ⟨w.heap.size + 1, 5, none⟩ (.int .u32 (W K.k5))).setCell ⟨w.heap.size + 1, 6, none⟩ (.int .u32 (W K.k6))).setCell ⟨w.heap.size + 1, 7, none⟩ (.int .u32 (W K.k7))) := below_set8 hb (by omega)
      have HG := Lib.hid (And.intro hg3 hb3)
      clear hg3 hb3 hb hz hk
      go_wp2_with fail
      simp only [Exit.jump]
      generalize ((((((((w1.setCell ⟨w.heap.size + 1, 0, none⟩ (.int .u32 (W K.k0))).setCell ⟨w.heap.size + 1, 1, none⟩ (.int .u32 (W K.k1))).setCell ⟨w.heap.size + 1, 2, none⟩ (.int .u32 (W K.k2))).setCell ⟨w.heap.size + 1, 3, none⟩ (.int .u32 (W K.k3))).setCell ⟨w.heap.size + 1, 4, none⟩ (.int .u32 (W K.k4))).setCell ⟨w.heap.size + 1, 5, none⟩ (.int .u32 (W K.k5))).setCell ⟨w.heap.size + 1, 6, none⟩ (.int .u32 (W K.k6))).setCell ⟨w.heap.size + 1, 7, none⟩ (.int .u32 (W K.k7))) = wx at HG ⊢
      obtain ⟨hg3, hb3⟩ := HG.out
      have hg8 := hg3.eight
      obtain rfl : m = n := by omega
      refine bodyPost_ret (v := .tuple #[.agg #[.int .u32 (W K.k0), .int .u32 (W K.k1), .int .u32 (W K.k2), .int .u32 (W K.k3), .int .u32 (W K.k4), .int .u32 (W K.k5), .int .u32 (W K.k6), .int .u32 (W K.k7)], .int .i64 0]) (by simp [results, Try.results37, go_sem, hg8]) rfl ⟨?_, hb3⟩
      rw [keyL, HKK.out]; rfl
end Go.Proofs.Ytcdklmicbbcknaa
