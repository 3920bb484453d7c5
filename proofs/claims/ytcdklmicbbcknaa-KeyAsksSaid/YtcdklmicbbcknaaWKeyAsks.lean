/-
  steamerlaw16.KeyAsks answers true and leaves old memory as it was: by a walk of its text (printed by keyasks.py).
-/
import Derived.Test.YtcdklmicbbcknaaKb
namespace Go.Proofs.Ytcdklmicbbcknaa
open Go Go.RowKit
theorem ka_rcheck (k : K8) (t0 t1 t2 t3 t4 t5 t6 t7 : UInt8) (hT : Hid (tagL k (-1) [] = [t0, t1, t2, t3, t4, t5, t6, t7])) (w : World) : Calls Try.prog 40 #[.agg #[.int .u32 (W k.k0), .int .u32 (W k.k1), .int .u32 (W k.k2), .int .u32 (W k.k3), .int .u32 (W k.k4), .int .u32 (W k.k5), .int .u32 (W k.k6), .int .u32 (W k.k7)]] w fun e w' => e = .returned (.string (mkStr [t0, t1, t2, t3, t4, t5, t6, t7])) ∧ Below w.heap.size w w' := by
  have h := rcheck_any k w
  rw [hT.out] at h
  exact h
/-- what key.Of and the reference's KeyOf return -/
def Ret (z : Int) (l : List UInt8) (s : S8) (v0 v1 v2 v3 v4 v5 v6 v7 c : Int) : Prop :=
  (∀ w, Calls Try.prog 37 #[.string (mkStr l), .agg #[.int .u8 (s.s0.toNat : Int), .int .u8 (s.s1.toNat : Int), .int .u8 (s.s2.toNat : Int), .int .u8 (s.s3.toNat : Int), .int .u8 (s.s4.toNat : Int), .int .u8 (s.s5.toNat : Int), .int .u8 (s.s6.toNat : Int), .int .u8 (s.s7.toNat : Int)], .int .i64 z] w fun e w' => e = .returned (.tuple #[.agg #[.int .u32 v0, .int .u32 v1, .int .u32 v2, .int .u32 v3, .int .u32 v4, .int .u32 v5, .int .u32 v6, .int .u32 v7], .int .i64 c]) ∧ Below w.heap.size w w') ∧
  (∀ w, Calls Try.prog 38 #[.string (mkStr l), .string (mkStr [s.s0, s.s1, s.s2, s.s3, s.s4, s.s5, s.s6, s.s7]), .int .i64 z] w fun e w' => e = .returned (.tuple #[.agg #[.int .u32 v0, .int .u32 v1, .int .u32 v2, .int .u32 v3, .int .u32 v4, .int .u32 v5, .int .u32 v6, .int .u32 v7], .int .i64 c]) ∧ Below w.heap.size w w')
theorem ret_ex (z : Int) (l : List UInt8) (s : S8) : ∃ v0 v1 v2 v3 v4 v5 v6 v7 c, Hid (Ret z l s v0 v1 v2 v3 v4 v5 v6 v7 c) := by
  by_cases h : 100 < l.length ∨ z < 1 ∨ 1000 < z
  · exact ⟨0, 0, 0, 0, 0, 0, 0, 0, 1, Lib.hid ⟨kb_bad l s z h, kb_rbad l s z h⟩⟩
  · have hz : z = (z.toNat : Int) := by omega
    exact ⟨_, _, _, _, _, _, _, _, 0, Lib.hid ⟨kb_good l s z.toNat z hz _ rfl (by omega) (by omega) (by omega), kb_rgood l s z.toNat z hz _ rfl (by omega) (by omega) (by omega)⟩⟩
attribute [local go_sem ↓] run_str'
set_option maxRecDepth 20000 in
set_option maxHeartbeats 16000000 in
theorem walk_KeyAsks (S : ByteArray) (sl : List UInt8) (n : Int) (k : K8) (w : World) (_hS : S.size ≤ maxLen) (hsl : sl.length = 8) (_hn : -9223372036854775808 ≤ n ∧ n < 9223372036854775808) :
    Calls Try.prog 11 #[.string S, .agg (bvals sl).toArray, .int .i64 n, .agg k.vals.toArray] w fun e w' => e = .returned (.bool true) ∧ Below w.heap.size w w' := by
  obtain ⟨l, rfl⟩ := str_of S
  obtain ⟨s, rfl⟩ := s8_of sl hsl
  have hsz : (mkStr l).size = l.length := mkStr_size l
  show Calls Try.prog 11 #[.string (mkStr l), .agg #[.int .u8 (s.s0.toNat : Int), .int .u8 (s.s1.toNat : Int), .int .u8 (s.s2.toNat : Int), .int .u8 (s.s3.toNat : Int), .int .u8 (s.s4.toNat : Int), .int .u8 (s.s5.toNat : Int), .int .u8 (s.s6.toNat : Int), .int .u8 (s.s7.toNat : Int)], .int .i64 n, .agg #[.int .u32 (W k.k0), .int .u32 (W k.k1), .int .u32 (W k.k2), .int .u32 (W k.k3), .int .u32 (W k.k4), .int .u32 (W k.k5), .int .u32 (W k.k6), .int .u32 (W k.k7)]] w _
  have hb0 : Below w.heap.size w ((w.alloc (.cells #[.int .u8 (s.s0.toNat : Int), .int .u8 (s.s1.toNat : Int), .int .u8 (s.s2.toNat : Int), .int .u8 (s.s3.toNat : Int), .int .u8 (s.s4.toNat : Int), .int .u8 (s.s5.toNat : Int), .int .u8 (s.s6.toNat : Int), .int .u8 (s.s7.toNat : Int)] 26)).alloc (.cells #[.int .u32 (W k.k0), .int .u32 (W k.k1), .int .u32 (W k.k2), .int .u32 (W k.k3), .int .u32 (W k.k4), .int .u32 (W k.k5), .int .u32 (W k.k6), .int .u32 (W k.k7)] 23)) := ((Below.refl _ _).alloc (Nat.le_refl _) _).alloc (by simp) _
  clear _hS hsl
  by_cases h100 : 120 < l.length
  · go_enter Try.func11, Try.ntmps11
    go_wp2_with fail
    refine (told16 _).mono ?_
    rintro e w1 ⟨rfl, hb1⟩
    go_wp2
    go_ret
    exact ⟨rfl, hb0.trans (hb1.mono (by simp; omega))⟩
  · have hs0 := (Holds.newAt w 26 [.int .u8 (s.s0.toNat : Int), .int .u8 (s.s1.toNat : Int), .int .u8 (s.s2.toNat : Int), .int .u8 (s.s3.toNat : Int), .int .u8 (s.s4.toNat : Int), .int .u8 (s.s5.toNat : Int), .int .u8 (s.s6.toNat : Int), .int .u8 (s.s7.toNat : Int)] (n := w.heap.size) rfl).alloc (.cells #[.int .u32 (W k.k0), .int .u32 (W k.k1), .int .u32 (W k.k2), .int .u32 (W k.k3), .int .u32 (W k.k4), .int .u32 (W k.k5), .int .u32 (W k.k6), .int .u32 (W k.k7)] 23)
    have hk0 := Holds.newAt (w.alloc (.cells #[.int .u8 (s.s0.toNat : Int), .int .u8 (s.s1.toNat : Int), .int .u8 (s.s2.toNat : Int), .int .u8 (s.s3.toNat : Int), .int .u8 (s.s4.toNat : Int), .int .u8 (s.s5.toNat : Int), .int .u8 (s.s6.toNat : Int), .int .u8 (s.s7.toNat : Int)] 26)) 23 [.int .u32 (W k.k0), .int .u32 (W k.k1), .int .u32 (W k.k2), .int .u32 (W k.k3), .int .u32 (W k.k4), .int .u32 (W k.k5), .int .u32 (W k.k6), .int .u32 (W k.k7)] (n := w.heap.size + 1) (by simp)
    have hst0 : (convert 24 9 (.slice (some ⟨w.heap.size, 0, none⟩) 8 8)).run Try.prog ((w.alloc (.cells #[.int .u8 (s.s0.toNat : Int), .int .u8 (s.s1.toNat : Int), .int .u8 (s.s2.toNat : Int), .int .u8 (s.s3.toNat : Int), .int .u8 (s.s4.toNat : Int), .int .u8 (s.s5.toNat : Int), .int .u8 (s.s6.toNat : Int), .int .u8 (s.s7.toNat : Int)] 26)).alloc (.cells #[.int .u32 (W k.k0), .int .u32 (W k.k1), .int .u32 (W k.k2), .int .u32 (W k.k3), .int .u32 (W k.k4), .int .u32 (W k.k5), .int .u32 (W k.k6), .int .u32 (W k.k7)] 23)) = .ok (.string (mkStr [s.s0, s.s1, s.s2, s.s3, s.s4, s.s5, s.s6, s.s7])) ((w.alloc (.cells #[.int .u8 (s.s0.toNat : Int), .int .u8 (s.s1.toNat : Int), .int .u8 (s.s2.toNat : Int), .int .u8 (s.s3.toNat : Int), .int .u8 (s.s4.toNat : Int), .int .u8 (s.s5.toNat : Int), .int .u8 (s.s6.toNat : Int), .int .u8 (s.s7.toNat : Int)] 26)).alloc (.cells #[.int .u32 (W k.k0), .int .u32 (W k.k1), .int .u32 (W k.k2), .int .u32 (W k.k3), .int .u32 (W k.k4), .int .u32 (W k.k5), .int .u32 (W k.k6), .int .u32 (W k.k7)] 23)) := run_str (Bts.of_holds (l := [s.s0, s.s1, s.s2, s.s3, s.s4, s.s5, s.s6, s.s7]) hs0) 8
    clear hst0
    obtain ⟨t0, t1, t2, t3, t4, t5, t6, t7, hTT⟩ : ∃ t0 t1 t2 t3 t4 t5 t6 t7, Hid (tagL k (-1) [] = [t0, t1, t2, t3, t4, t5, t6, t7]) := ⟨_, _, _, _, _, _, _, _, rfl⟩
    rcases (show n ≤ 50 ∨ (50 < n ∧ n ≤ 1000) ∨ (50 < n ∧ 1000 < n) by omega) with hn1 | ⟨hn1, hn2⟩ | ⟨hn1, hn2⟩
    · obtain ⟨v0, v1, v2, v3, v4, v5, v6, v7, c, HR⟩ := ret_ex n l s
      go_enter Try.func11, Try.ntmps11
      go_wp2_with fail
      refine (HR.out.1 _).mono ?_
      rintro e w1 ⟨rfl, hb1⟩
      have hs1 := (hs0.below hb1 (by simp; omega)).alloc (.cells #[.int .u32 v0, .int .u32 v1, .int .u32 v2, .int .u32 v3, .int .u32 v4, .int .u32 v5, .int .u32 v6, .int .u32 v7] 28)
      have hk1 := (hk0.below hb1 (by simp)).alloc (.cells #[.int .u32 v0, .int .u32 v1, .int .u32 v2, .int .u32 v3, .int .u32 v4, .int .u32 v5, .int .u32 v6, .int .u32 v7] 28)
      have hv1 := Holds.newAt w1 28 [.int .u32 v0, .int .u32 v1, .int .u32 v2, .int .u32 v3, .int .u32 v4, .int .u32 v5, .int .u32 v6, .int .u32 v7] (n := w1.heap.size) rfl
      have hbw1 := (hb0.trans (hb1.mono (by simp; omega))).alloc (by have := hb1.size; simp at this; omega) (.cells #[.int .u32 v0, .int .u32 v1, .int .u32 v2, .int .u32 v3, .int .u32 v4, .int .u32 v5, .int .u32 v6, .int .u32 v7] 28)
      have hst1 : (convert 24 9 (.slice (some ⟨w.heap.size, 0, none⟩) 8 8)).run Try.prog (w1.alloc (.cells #[.int .u32 v0, .int .u32 v1, .int .u32 v2, .int .u32 v3, .int .u32 v4, .int .u32 v5, .int .u32 v6, .int .u32 v7] 28)) = .ok (.string (mkStr [s.s0, s.s1, s.s2, s.s3, s.s4, s.s5, s.s6, s.s7])) (w1.alloc (.cells #[.int .u32 v0, .int .u32 v1, .int .u32 v2, .int .u32 v3, .int .u32 v4, .int .u32 v5, .int .u32 v6, .int .u32 v7] 28)) := run_str (Bts.of_holds (l := [s.s0, s.s1, s.s2, s.s3, s.s4, s.s5, s.s6, s.s7]) hs1) 8
      clear hs0 hk0 hb0 hb1
      go_wp2_with fail
      refine (HR.out.2 _).mono ?_
      rintro e w2 ⟨rfl, hb2⟩
      have hk2 := (hk1.below hb2 hk1.lt).alloc (.cells #[.int .u32 v0, .int .u32 v1, .int .u32 v2, .int .u32 v3, .int .u32 v4, .int .u32 v5, .int .u32 v6, .int .u32 v7] 32)
      have hv2 := (hv1.below hb2 hv1.lt).alloc (.cells #[.int .u32 v0, .int .u32 v1, .int .u32 v2, .int .u32 v3, .int .u32 v4, .int .u32 v5, .int .u32 v6, .int .u32 v7] 32)
      have hr2 := Holds.newAt w2 32 [.int .u32 v0, .int .u32 v1, .int .u32 v2, .int .u32 v3, .int .u32 v4, .int .u32 v5, .int .u32 v6, .int .u32 v7] (n := w2.heap.size) rfl
      have hbw2 := (hbw1.trans (hb2.mono hbw1.size)).alloc (by have := hbw1.size; have := hb2.size; omega) (.cells #[.int .u32 v0, .int .u32 v1, .int .u32 v2, .int .u32 v3, .int .u32 v4, .int .u32 v5, .int .u32 v6, .int .u32 v7] 32)
      clear hst1 hs1 hk1 hv1 hbw1 hb2
      have v8 := hv2.eight
      have r8 := hr2.eight
      have HK := Lib.hid (And.intro hk2 hbw2)
      clear hk2 hv2 hr2 hbw2
      go_wp2_with fail
      generalize w2.alloc (.cells #[.int .u32 v0, .int .u32 v1, .int .u32 v2, .int .u32 v3, .int .u32 v4, .int .u32 v5, .int .u32 v6, .int .u32 v7] 32) = w3 at *
      generalize w1.heap.size = g1 at *
      generalize w2.heap.size = g2 at *
      refine wp_loop_rounds 9 ?_
      iterate 8 (
        rw [rounds_succ]
        go_wp2_with fail
        go_region
        go_wp2_with fail)
      rw [rounds_succ]
      clear v8 r8
      have hk8 := HK.out.1.eight
      go_wp2_with fail
      refine (kt_check k _ _ _ _ _ _ _ _ hTT _).mono ?_
      rintro e w4 ⟨rfl, hb4⟩
      have hbd : Below w3.heap.size w3 w4 := Below.trans (by repeat (first | exact Below.refl _ _ | refine Below.drew ?_)) hb4
      have hk4 := (HK.out.1.below hbd HK.out.1.lt).alloc (.cells #[.int .u8 (t0.toNat : Int), .int .u8 (t1.toNat : Int), .int .u8 (t2.toNat : Int), .int .u8 (t3.toNat : Int), .int .u8 (t4.toNat : Int), .int .u8 (t5.toNat : Int), .int .u8 (t6.toNat : Int), .int .u8 (t7.toNat : Int)] 26)
      have ht4 := Holds.newAt w4 26 [.int .u8 (t0.toNat : Int), .int .u8 (t1.toNat : Int), .int .u8 (t2.toNat : Int), .int .u8 (t3.toNat : Int), .int .u8 (t4.toNat : Int), .int .u8 (t5.toNat : Int), .int .u8 (t6.toNat : Int), .int .u8 (t7.toNat : Int)] (n := w4.heap.size) rfl
      have hbw4 := (HK.out.2.trans (hbd.mono HK.out.2.size)).alloc (by have := HK.out.2.size; have := hbd.size; omega) (.cells #[.int .u8 (t0.toNat : Int), .int .u8 (t1.toNat : Int), .int .u8 (t2.toNat : Int), .int .u8 (t3.toNat : Int), .int .u8 (t4.toNat : Int), .int .u8 (t5.toNat : Int), .int .u8 (t6.toNat : Int), .int .u8 (t7.toNat : Int)] 26)
      have HS := Lib.hid (And.intro hk4.drew (And.intro ht4.drew hbw4.drew))
      clear HK hk4 ht4 hbw4 hb4 hbd hk8
      go_wp2_with fail
      refine wp_region_till 9 (fun w' => Holds w' (w.heap.size + 1) 23 [.int .u32 (W k.k0), .int .u32 (W k.k1), .int .u32 (W k.k2), .int .u32 (W k.k3), .int .u32 (W k.k4), .int .u32 (W k.k5), .int .u32 (W k.k6), .int .u32 (W k.k7)] ∧ Holds w' w4.heap.size 26 [.int .u8 (t0.toNat : Int), .int .u8 (t1.toNat : Int), .int .u8 (t2.toNat : Int), .int .u8 (t3.toNat : Int), .int .u8 (t4.toNat : Int), .int .u8 (t5.toNat : Int), .int .u8 (t6.toNat : Int), .int .u8 (t7.toNat : Int)] ∧ Below w.heap.size w w') (fun _ => True) (by kernel_rfl) (HS.out) trivial ?_
      show Go_ _ _ _ _ _ _ _ _ _ _ (World.drew _)
      refine Go_.step (i := 0) (o := ⟨some 60, Op.call { callee := Callee.value (Operand.func 36), args := #[], argTypes := #[] }, 4, _, _, none⟩) (by kernel_rfl) rfl (fun K hT hK => ?_)
      replace hT := hT.1
      rw [if_pos (by rfl)]
      go_simp
      refine (told16 _).mono ?_
      rintro e w' ⟨rfl, hbx⟩
      refine hK.out _ _ (Till.of ⟨hT.1.below hbx hT.1.lt, hT.2.1.below hbx hT.2.1.lt, hT.2.2.trans (hbx.mono hT.2.2.size)⟩) ?_
      clear hT hK K
      refine Go_.take (i := 1) (oi := ⟨some 61, Op.move (Operand.tmp 60), 4, _, _, none⟩) (v := ?_) rfl (by kernel_rfl) (by kernel_rfl) (by kernel_rfl) rfl (fun _ _ _ h => h) (Or.inl ⟨by rfl, ?_⟩) ?_
      rotate_left; · intro w0 _; go_simp; try with_reducible rfl
      try simp only [Act.put, List.setIfInBounds_toArray, List.set_cons_zero, List.set_cons_succ]
      refine Go_.take (i := 2) (oi := ⟨some 62, Op.slice 26 (Operand.tmp 15) none none none, 24, _, _, some (1, true)⟩) (v := ?_) rfl (by kernel_rfl) (by kernel_rfl) (by kernel_rfl) rfl (fun _ _ _ h => h) (Or.inl ⟨by rfl, ?_⟩) ?_
      rotate_left; · intro w0 _; go_simp; try with_reducible rfl
      try simp only [Act.put, List.setIfInBounds_toArray, List.set_cons_zero, List.set_cons_succ]
      refine Go_.take (i := 3) (oi := ⟨some 63, Op.convert 24 9 (Operand.tmp 62), 9, _, _, some (1, true)⟩) (v := ?_) rfl (by kernel_rfl) (by kernel_rfl) (by kernel_rfl) rfl (fun _ _ _ h => h) (Or.inl ⟨by rfl, ?_⟩) ?_
      rotate_left; · intro w0 hS; obtain ⟨hH, hH2, hW⟩ := hS; have h8 := hH.eight; have hst : (convert 24 9 (.slice (some ⟨w4.heap.size, 0, none⟩) 8 8)).run Try.prog w0 = .ok (.string (mkStr [t0, t1, t2, t3, t4, t5, t6, t7])) w0 := run_str (Bts.of_holds (l := [t0, t1, t2, t3, t4, t5, t6, t7]) hH2) 8; go_simp; try with_reducible rfl
      try simp only [Act.put, List.setIfInBounds_toArray, List.set_cons_zero, List.set_cons_succ]
      refine Go_.take (i := 4) (oi := ⟨some 64, Op.load 23 (Operand.tmp 7), 23, _, _, some (1, true)⟩) (v := ?_) rfl (by kernel_rfl) (by kernel_rfl) (by kernel_rfl) rfl (fun _ _ _ h => h) (Or.inl ⟨by rfl, ?_⟩) ?_
      rotate_left; · intro w0 hS; obtain ⟨hH, hH2, hW⟩ := hS; have h8 := hH.eight; have hst : (convert 24 9 (.slice (some ⟨w4.heap.size, 0, none⟩) 8 8)).run Try.prog w0 = .ok (.string (mkStr [t0, t1, t2, t3, t4, t5, t6, t7])) w0 := run_str (Bts.of_holds (l := [t0, t1, t2, t3, t4, t5, t6, t7]) hH2) 8; go_simp; try with_reducible rfl
      try simp only [Act.put, List.setIfInBounds_toArray, List.set_cons_zero, List.set_cons_succ]
      refine Go_.step (i := 5) (o := ⟨some 65, Op.call { callee := Callee.value (Operand.func 40), args := #[Operand.tmp 64], argTypes := #[32] }, 9, _, _, some (1, true)⟩) (by kernel_rfl) rfl (fun K hT hK => ?_)
      replace hT := hT.1
      rw [if_pos (by rfl)]
      go_simp
      refine (ka_rcheck k _ _ _ _ _ _ _ _ hTT _).mono ?_
      rintro e w' ⟨rfl, hbx⟩
      have hfin := hT.2.2.trans (hbx.mono hT.2.2.size)
      refine hK.out _ _ (Till.of ⟨hT.1.below hbx hT.1.lt, hT.2.1.below hbx hT.2.1.lt, hT.2.2.trans (hbx.mono hT.2.2.size)⟩) ?_
      clear hT hK K
      refine Go_.take (i := 6) (oi := ⟨some 66, Op.binOp BinOp.eql 9 (Operand.tmp 63) (Operand.tmp 65) 9, 4, _, _, some (1, true)⟩) (v := ?_) rfl (by kernel_rfl) (by kernel_rfl) (by kernel_rfl) rfl (fun _ _ _ h => h) (Or.inl ⟨by rfl, ?_⟩) ?_
      rotate_left; · intro w0 _; go_simp; try with_reducible rfl
      try simp only [Act.put, List.setIfInBounds_toArray, List.set_cons_zero, List.set_cons_succ]
      refine Go_.take (i := 7) (oi := ⟨some 67, Op.pick (Operand.tmp 61) (Operand.tmp 66) (Operand.const (Value.bool false)), 4, _, _, none⟩) (v := ?_) rfl (by kernel_rfl) (by kernel_rfl) (by kernel_rfl) rfl (fun _ _ _ h => h) (Or.inl ⟨by rfl, ?_⟩) ?_
      rotate_left; · intro w0 _; go_simp; try with_reducible rfl
      try simp only [Act.put, List.setIfInBounds_toArray, List.set_cons_zero, List.set_cons_succ]
      refine Go_.take (i := 8) (oi := ⟨some 8, Op.assign (Operand.tmp 67), 4, _, _, none⟩) (v := ?_) rfl (by kernel_rfl) (by kernel_rfl) (by kernel_rfl) rfl (fun _ _ _ h => h) (Or.inl ⟨by rfl, ?_⟩) ?_
      rotate_left; · intro w0 _; go_simp; try with_reducible rfl
      try simp only [Act.put, List.setIfInBounds_toArray, List.set_cons_zero, List.set_cons_succ]
      refine Go_.done (by kernel_rfl) ?_
      go_wp2
      go_ret
      exact ⟨ret_boolB (by simp), hfin⟩
    · obtain ⟨v0, v1, v2, v3, v4, v5, v6, v7, c, HR⟩ := ret_ex (n % 51) l s
      go_enter Try.func11, Try.ntmps11
      go_wp2_with fail
      refine (HR.out.1 _).mono ?_
      rintro e w1 ⟨rfl, hb1⟩
      have hs1 := (hs0.below hb1 (by simp; omega)).alloc (.cells #[.int .u32 v0, .int .u32 v1, .int .u32 v2, .int .u32 v3, .int .u32 v4, .int .u32 v5, .int .u32 v6, .int .u32 v7] 28)
      have hk1 := (hk0.below hb1 (by simp)).alloc (.cells #[.int .u32 v0, .int .u32 v1, .int .u32 v2, .int .u32 v3, .int .u32 v4, .int .u32 v5, .int .u32 v6, .int .u32 v7] 28)
      have hv1 := Holds.newAt w1 28 [.int .u32 v0, .int .u32 v1, .int .u32 v2, .int .u32 v3, .int .u32 v4, .int .u32 v5, .int .u32 v6, .int .u32 v7] (n := w1.heap.size) rfl
      have hbw1 := (hb0.trans (hb1.mono (by simp; omega))).alloc (by have := hb1.size; simp at this; omega) (.cells #[.int .u32 v0, .int .u32 v1, .int .u32 v2, .int .u32 v3, .int .u32 v4, .int .u32 v5, .int .u32 v6, .int .u32 v7] 28)
      have hst1 : (convert 24 9 (.slice (some ⟨w.heap.size, 0, none⟩) 8 8)).run Try.prog (w1.alloc (.cells #[.int .u32 v0, .int .u32 v1, .int .u32 v2, .int .u32 v3, .int .u32 v4, .int .u32 v5, .int .u32 v6, .int .u32 v7] 28)) = .ok (.string (mkStr [s.s0, s.s1, s.s2, s.s3, s.s4, s.s5, s.s6, s.s7])) (w1.alloc (.cells #[.int .u32 v0, .int .u32 v1, .int .u32 v2, .int .u32 v3, .int .u32 v4, .int .u32 v5, .int .u32 v6, .int .u32 v7] 28)) := run_str (Bts.of_holds (l := [s.s0, s.s1, s.s2, s.s3, s.s4, s.s5, s.s6, s.s7]) hs1) 8
      clear hs0 hk0 hb0 hb1
      go_wp2_with fail
      refine (HR.out.2 _).mono ?_
      rintro e w2 ⟨rfl, hb2⟩
      have hk2 := (hk1.below hb2 hk1.lt).alloc (.cells #[.int .u32 v0, .int .u32 v1, .int .u32 v2, .int .u32 v3, .int .u32 v4, .int .u32 v5, .int .u32 v6, .int .u32 v7] 32)
      have hv2 := (hv1.below hb2 hv1.lt).alloc (.cells #[.int .u32 v0, .int .u32 v1, .int .u32 v2, .int .u32 v3, .int .u32 v4, .int .u32 v5, .int .u32 v6, .int .u32 v7] 32)
      have hr2 := Holds.newAt w2 32 [.int .u32 v0, .int .u32 v1, .int .u32 v2, .int .u32 v3, .int .u32 v4, .int .u32 v5, .int .u32 v6, .int .u32 v7] (n := w2.heap.size) rfl
      have hbw2 := (hbw1.trans (hb2.mono hbw1.size)).alloc (by have := hbw1.size; have := hb2.size; omega) (.cells #[.int .u32 v0, .int .u32 v1, .int .u32 v2, .int .u32 v3, .int .u32 v4, .int .u32 v5, .int .u32 v6, .int .u32 v7] 32)
      clear hst1 hs1 hk1 hv1 hbw1 hb2
      have v8 := hv2.eight
      have r8 := hr2.eight
      have HK := Lib.hid (And.intro hk2 hbw2)
      clear hk2 hv2 hr2 hbw2
      go_wp2_with fail
      generalize w2.alloc (.cells #[.int .u32 v0, .int .u32 v1, .int .u32 v2, .int .u32 v3, .int .u32 v4, .int .u32 v5, .int .u32 v6, .int .u32 v7] 32) = w3 at *
      generalize w1.heap.size = g1 at *
      generalize w2.heap.size = g2 at *
      refine wp_loop_rounds 9 ?_
      iterate 8 (
        rw [rounds_succ]
        go_wp2_with fail
        go_region
        go_wp2_with fail)
      rw [rounds_succ]
      clear v8 r8
      have hk8 := HK.out.1.eight
      go_wp2_with fail
      refine (kt_check k _ _ _ _ _ _ _ _ hTT _).mono ?_
      rintro e w4 ⟨rfl, hb4⟩
      have hbd : Below w3.heap.size w3 w4 := Below.trans (by repeat (first | exact Below.refl _ _ | refine Below.drew ?_)) hb4
      have hk4 := (HK.out.1.below hbd HK.out.1.lt).alloc (.cells #[.int .u8 (t0.toNat : Int), .int .u8 (t1.toNat : Int), .int .u8 (t2.toNat : Int), .int .u8 (t3.toNat : Int), .int .u8 (t4.toNat : Int), .int .u8 (t5.toNat : Int), .int .u8 (t6.toNat : Int), .int .u8 (t7.toNat : Int)] 26)
      have ht4 := Holds.newAt w4 26 [.int .u8 (t0.toNat : Int), .int .u8 (t1.toNat : Int), .int .u8 (t2.toNat : Int), .int .u8 (t3.toNat : Int), .int .u8 (t4.toNat : Int), .int .u8 (t5.toNat : Int), .int .u8 (t6.toNat : Int), .int .u8 (t7.toNat : Int)] (n := w4.heap.size) rfl
      have hbw4 := (HK.out.2.trans (hbd.mono HK.out.2.size)).alloc (by have := HK.out.2.size; have := hbd.size; omega) (.cells #[.int .u8 (t0.toNat : Int), .int .u8 (t1.toNat : Int), .int .u8 (t2.toNat : Int), .int .u8 (t3.toNat : Int), .int .u8 (t4.toNat : Int), .int .u8 (t5.toNat : Int), .int .u8 (t6.toNat : Int), .int .u8 (t7.toNat : Int)] 26)
      have HS := Lib.hid (And.intro hk4.drew (And.intro ht4.drew hbw4.drew))
      clear HK hk4 ht4 hbw4 hb4 hbd hk8
      go_wp2_with fail
      refine wp_region_till 9 (fun w' => Holds w' (w.heap.size + 1) 23 [.int .u32 (W k.k0), .int .u32 (W k.k1), .int .u32 (W k.k2), .int .u32 (W k.k3), .int .u32 (W k.k4), .int .u32 (W k.k5), .int .u32 (W k.k6), .int .u32 (W k.k7)] ∧ Holds w' w4.heap.size 26 [.int .u8 (t0.toNat : Int), .int .u8 (t1.toNat : Int), .int .u8 (t2.toNat : Int), .int .u8 (t3.toNat : Int), .int .u8 (t4.toNat : Int), .int .u8 (t5.toNat : Int), .int .u8 (t6.toNat : Int), .int .u8 (t7.toNat : Int)] ∧ Below w.heap.size w w') (fun _ => True) (by kernel_rfl) (HS.out) trivial ?_
      show Go_ _ _ _ _ _ _ _ _ _ _ (World.drew _)
      refine Go_.step (i := 0) (o := ⟨some 60, Op.call { callee := Callee.value (Operand.func 36), args := #[], argTypes := #[] }, 4, _, _, none⟩) (by kernel_rfl) rfl (fun K hT hK => ?_)
      replace hT := hT.1
      rw [if_pos (by rfl)]
      go_simp
      refine (told16 _).mono ?_
      rintro e w' ⟨rfl, hbx⟩
      refine hK.out _ _ (Till.of ⟨hT.1.below hbx hT.1.lt, hT.2.1.below hbx hT.2.1.lt, hT.2.2.trans (hbx.mono hT.2.2.size)⟩) ?_
      clear hT hK K
      refine Go_.take (i := 1) (oi := ⟨some 61, Op.move (Operand.tmp 60), 4, _, _, none⟩) (v := ?_) rfl (by kernel_rfl) (by kernel_rfl) (by kernel_rfl) rfl (fun _ _ _ h => h) (Or.inl ⟨by rfl, ?_⟩) ?_
      rotate_left; · intro w0 _; go_simp; try with_reducible rfl
      try simp only [Act.put, List.setIfInBounds_toArray, List.set_cons_zero, List.set_cons_succ]
      refine Go_.take (i := 2) (oi := ⟨some 62, Op.slice 26 (Operand.tmp 15) none none none, 24, _, _, some (1, true)⟩) (v := ?_) rfl (by kernel_rfl) (by kernel_rfl) (by kernel_rfl) rfl (fun _ _ _ h => h) (Or.inl ⟨by rfl, ?_⟩) ?_
      rotate_left; · intro w0 _; go_simp; try with_reducible rfl
      try simp only [Act.put, List.setIfInBounds_toArray, List.set_cons_zero, List.set_cons_succ]
      refine Go_.take (i := 3) (oi := ⟨some 63, Op.convert 24 9 (Operand.tmp 62), 9, _, _, some (1, true)⟩) (v := ?_) rfl (by kernel_rfl) (by kernel_rfl) (by kernel_rfl) rfl (fun _ _ _ h => h) (Or.inl ⟨by rfl, ?_⟩) ?_
      rotate_left; · intro w0 hS; obtain ⟨hH, hH2, hW⟩ := hS; have h8 := hH.eight; have hst : (convert 24 9 (.slice (some ⟨w4.heap.size, 0, none⟩) 8 8)).run Try.prog w0 = .ok (.string (mkStr [t0, t1, t2, t3, t4, t5, t6, t7])) w0 := run_str (Bts.of_holds (l := [t0, t1, t2, t3, t4, t5, t6, t7]) hH2) 8; go_simp; try with_reducible rfl
      try simp only [Act.put, List.setIfInBounds_toArray, List.set_cons_zero, List.set_cons_succ]
      refine Go_.take (i := 4) (oi := ⟨some 64, Op.load 23 (Operand.tmp 7), 23, _, _, some (1, true)⟩) (v := ?_) rfl (by kernel_rfl) (by kernel_rfl) (by kernel_rfl) rfl (fun _ _ _ h => h) (Or.inl ⟨by rfl, ?_⟩) ?_
      rotate_left; · intro w0 hS; obtain ⟨hH, hH2, hW⟩ := hS; have h8 := hH.eight; have hst : (convert 24 9 (.slice (some ⟨w4.heap.size, 0, none⟩) 8 8)).run Try.prog w0 = .ok (.string (mkStr [t0, t1, t2, t3, t4, t5, t6, t7])) w0 := run_str (Bts.of_holds (l := [t0, t1, t2, t3, t4, t5, t6, t7]) hH2) 8; go_simp; try with_reducible rfl
      try simp only [Act.put, List.setIfInBounds_toArray, List.set_cons_zero, List.set_cons_succ]
      refine Go_.step (i := 5) (o := ⟨some 65, Op.call { callee := Callee.value (Operand.func 40), args := #[Operand.tmp 64], argTypes := #[32] }, 9, _, _, some (1, true)⟩) (by kernel_rfl) rfl (fun K hT hK => ?_)
      replace hT := hT.1
      rw [if_pos (by rfl)]
      go_simp
      refine (ka_rcheck k _ _ _ _ _ _ _ _ hTT _).mono ?_
      rintro e w' ⟨rfl, hbx⟩
      have hfin := hT.2.2.trans (hbx.mono hT.2.2.size)
      refine hK.out _ _ (Till.of ⟨hT.1.below hbx hT.1.lt, hT.2.1.below hbx hT.2.1.lt, hT.2.2.trans (hbx.mono hT.2.2.size)⟩) ?_
      clear hT hK K
      refine Go_.take (i := 6) (oi := ⟨some 66, Op.binOp BinOp.eql 9 (Operand.tmp 63) (Operand.tmp 65) 9, 4, _, _, some (1, true)⟩) (v := ?_) rfl (by kernel_rfl) (by kernel_rfl) (by kernel_rfl) rfl (fun _ _ _ h => h) (Or.inl ⟨by rfl, ?_⟩) ?_
      rotate_left; · intro w0 _; go_simp; try with_reducible rfl
      try simp only [Act.put, List.setIfInBounds_toArray, List.set_cons_zero, List.set_cons_succ]
      refine Go_.take (i := 7) (oi := ⟨some 67, Op.pick (Operand.tmp 61) (Operand.tmp 66) (Operand.const (Value.bool false)), 4, _, _, none⟩) (v := ?_) rfl (by kernel_rfl) (by kernel_rfl) (by kernel_rfl) rfl (fun _ _ _ h => h) (Or.inl ⟨by rfl, ?_⟩) ?_
      rotate_left; · intro w0 _; go_simp; try with_reducible rfl
      try simp only [Act.put, List.setIfInBounds_toArray, List.set_cons_zero, List.set_cons_succ]
      refine Go_.take (i := 8) (oi := ⟨some 8, Op.assign (Operand.tmp 67), 4, _, _, none⟩) (v := ?_) rfl (by kernel_rfl) (by kernel_rfl) (by kernel_rfl) rfl (fun _ _ _ h => h) (Or.inl ⟨by rfl, ?_⟩) ?_
      rotate_left; · intro w0 _; go_simp; try with_reducible rfl
      try simp only [Act.put, List.setIfInBounds_toArray, List.set_cons_zero, List.set_cons_succ]
      refine Go_.done (by kernel_rfl) ?_
      go_wp2
      go_ret
      exact ⟨ret_boolB (by simp), hfin⟩
    · obtain ⟨v0, v1, v2, v3, v4, v5, v6, v7, c, HR⟩ := ret_ex n l s
      go_enter Try.func11, Try.ntmps11
      go_wp2_with fail
      refine (HR.out.1 _).mono ?_
      rintro e w1 ⟨rfl, hb1⟩
      have hs1 := (hs0.below hb1 (by simp; omega)).alloc (.cells #[.int .u32 v0, .int .u32 v1, .int .u32 v2, .int .u32 v3, .int .u32 v4, .int .u32 v5, .int .u32 v6, .int .u32 v7] 28)
      have hk1 := (hk0.below hb1 (by simp)).alloc (.cells #[.int .u32 v0, .int .u32 v1, .int .u32 v2, .int .u32 v3, .int .u32 v4, .int .u32 v5, .int .u32 v6, .int .u32 v7] 28)
      have hv1 := Holds.newAt w1 28 [.int .u32 v0, .int .u32 v1, .int .u32 v2, .int .u32 v3, .int .u32 v4, .int .u32 v5, .int .u32 v6, .int .u32 v7] (n := w1.heap.size) rfl
      have hbw1 := (hb0.trans (hb1.mono (by simp; omega))).alloc (by have := hb1.size; simp at this; omega) (.cells #[.int .u32 v0, .int .u32 v1, .int .u32 v2, .int .u32 v3, .int .u32 v4, .int .u32 v5, .int .u32 v6, .int .u32 v7] 28)
      have hst1 : (convert 24 9 (.slice (some ⟨w.heap.size, 0, none⟩) 8 8)).run Try.prog (w1.alloc (.cells #[.int .u32 v0, .int .u32 v1, .int .u32 v2, .int .u32 v3, .int .u32 v4, .int .u32 v5, .int .u32 v6, .int .u32 v7] 28)) = .ok (.string (mkStr [s.s0, s.s1, s.s2, s.s3, s.s4, s.s5, s.s6, s.s7])) (w1.alloc (.cells #[.int .u32 v0, .int .u32 v1, .int .u32 v2, .int .u32 v3, .int .u32 v4, .int .u32 v5, .int .u32 v6, .int .u32 v7] 28)) := run_str (Bts.of_holds (l := [s.s0, s.s1, s.s2, s.s3, s.s4, s.s5, s.s6, s.s7]) hs1) 8
      clear hs0 hk0 hb0 hb1
      go_wp2_with fail
      refine (HR.out.2 _).mono ?_
      rintro e w2 ⟨rfl, hb2⟩
      have hk2 := (hk1.below hb2 hk1.lt).alloc (.cells #[.int .u32 v0, .int .u32 v1, .int .u32 v2, .int .u32 v3, .int .u32 v4, .int .u32 v5, .int .u32 v6, .int .u32 v7] 32)
      have hv2 := (hv1.below hb2 hv1.lt).alloc (.cells #[.int .u32 v0, .int .u32 v1, .int .u32 v2, .int .u32 v3, .int .u32 v4, .int .u32 v5, .int .u32 v6, .int .u32 v7] 32)
      have hr2 := Holds.newAt w2 32 [.int .u32 v0, .int .u32 v1, .int .u32 v2, .int .u32 v3, .int .u32 v4, .int .u32 v5, .int .u32 v6, .int .u32 v7] (n := w2.heap.size) rfl
      have hbw2 := (hbw1.trans (hb2.mono hbw1.size)).alloc (by have := hbw1.size; have := hb2.size; omega) (.cells #[.int .u32 v0, .int .u32 v1, .int .u32 v2, .int .u32 v3, .int .u32 v4, .int .u32 v5, .int .u32 v6, .int .u32 v7] 32)
      clear hst1 hs1 hk1 hv1 hbw1 hb2
      have v8 := hv2.eight
      have r8 := hr2.eight
      have HK := Lib.hid (And.intro hk2 hbw2)
      clear hk2 hv2 hr2 hbw2
      go_wp2_with fail
      generalize w2.alloc (.cells #[.int .u32 v0, .int .u32 v1, .int .u32 v2, .int .u32 v3, .int .u32 v4, .int .u32 v5, .int .u32 v6, .int .u32 v7] 32) = w3 at *
      generalize w1.heap.size = g1 at *
      generalize w2.heap.size = g2 at *
      refine wp_loop_rounds 9 ?_
      iterate 8 (
        rw [rounds_succ]
        go_wp2_with fail
        go_region
        go_wp2_with fail)
      rw [rounds_succ]
      clear v8 r8
      have hk8 := HK.out.1.eight
      go_wp2_with fail
      refine (kt_check k _ _ _ _ _ _ _ _ hTT _).mono ?_
      rintro e w4 ⟨rfl, hb4⟩
      have hbd : Below w3.heap.size w3 w4 := Below.trans (by repeat (first | exact Below.refl _ _ | refine Below.drew ?_)) hb4
      have hk4 := (HK.out.1.below hbd HK.out.1.lt).alloc (.cells #[.int .u8 (t0.toNat : Int), .int .u8 (t1.toNat : Int), .int .u8 (t2.toNat : Int), .int .u8 (t3.toNat : Int), .int .u8 (t4.toNat : Int), .int .u8 (t5.toNat : Int), .int .u8 (t6.toNat : Int), .int .u8 (t7.toNat : Int)] 26)
      have ht4 := Holds.newAt w4 26 [.int .u8 (t0.toNat : Int), .int .u8 (t1.toNat : Int), .int .u8 (t2.toNat : Int), .int .u8 (t3.toNat : Int), .int .u8 (t4.toNat : Int), .int .u8 (t5.toNat : Int), .int .u8 (t6.toNat : Int), .int .u8 (t7.toNat : Int)] (n := w4.heap.size) rfl
      have hbw4 := (HK.out.2.trans (hbd.mono HK.out.2.size)).alloc (by have := HK.out.2.size; have := hbd.size; omega) (.cells #[.int .u8 (t0.toNat : Int), .int .u8 (t1.toNat : Int), .int .u8 (t2.toNat : Int), .int .u8 (t3.toNat : Int), .int .u8 (t4.toNat : Int), .int .u8 (t5.toNat : Int), .int .u8 (t6.toNat : Int), .int .u8 (t7.toNat : Int)] 26)
      have HS := Lib.hid (And.intro hk4.drew (And.intro ht4.drew hbw4.drew))
      clear HK hk4 ht4 hbw4 hb4 hbd hk8
      go_wp2_with fail
      refine wp_region_till 9 (fun w' => Holds w' (w.heap.size + 1) 23 [.int .u32 (W k.k0), .int .u32 (W k.k1), .int .u32 (W k.k2), .int .u32 (W k.k3), .int .u32 (W k.k4), .int .u32 (W k.k5), .int .u32 (W k.k6), .int .u32 (W k.k7)] ∧ Holds w' w4.heap.size 26 [.int .u8 (t0.toNat : Int), .int .u8 (t1.toNat : Int), .int .u8 (t2.toNat : Int), .int .u8 (t3.toNat : Int), .int .u8 (t4.toNat : Int), .int .u8 (t5.toNat : Int), .int .u8 (t6.toNat : Int), .int .u8 (t7.toNat : Int)] ∧ Below w.heap.size w w') (fun _ => True) (by kernel_rfl) (HS.out) trivial ?_
      show Go_ _ _ _ _ _ _ _ _ _ _ (World.drew _)
      refine Go_.step (i := 0) (o := ⟨some 60, Op.call { callee := Callee.value (Operand.func 36), args := #[], argTypes := #[] }, 4, _, _, none⟩) (by kernel_rfl) rfl (fun K hT hK => ?_)
      replace hT := hT.1
      rw [if_pos (by rfl)]
      go_simp
      refine (told16 _).mono ?_
      rintro e w' ⟨rfl, hbx⟩
      refine hK.out _ _ (Till.of ⟨hT.1.below hbx hT.1.lt, hT.2.1.below hbx hT.2.1.lt, hT.2.2.trans (hbx.mono hT.2.2.size)⟩) ?_
      clear hT hK K
      refine Go_.take (i := 1) (oi := ⟨some 61, Op.move (Operand.tmp 60), 4, _, _, none⟩) (v := ?_) rfl (by kernel_rfl) (by kernel_rfl) (by kernel_rfl) rfl (fun _ _ _ h => h) (Or.inl ⟨by rfl, ?_⟩) ?_
      rotate_left; · intro w0 _; go_simp; try with_reducible rfl
      try simp only [Act.put, List.setIfInBounds_toArray, List.set_cons_zero, List.set_cons_succ]
      refine Go_.take (i := 2) (oi := ⟨some 62, Op.slice 26 (Operand.tmp 15) none none none, 24, _, _, some (1, true)⟩) (v := ?_) rfl (by kernel_rfl) (by kernel_rfl) (by kernel_rfl) rfl (fun _ _ _ h => h) (Or.inl ⟨by rfl, ?_⟩) ?_
      rotate_left; · intro w0 _; go_simp; try with_reducible rfl
      try simp only [Act.put, List.setIfInBounds_toArray, List.set_cons_zero, List.set_cons_succ]
      refine Go_.take (i := 3) (oi := ⟨some 63, Op.convert 24 9 (Operand.tmp 62), 9, _, _, some (1, true)⟩) (v := ?_) rfl (by kernel_rfl) (by kernel_rfl) (by kernel_rfl) rfl (fun _ _ _ h => h) (Or.inl ⟨by rfl, ?_⟩) ?_
      rotate_left; · intro w0 hS; obtain ⟨hH, hH2, hW⟩ := hS; have h8 := hH.eight; have hst : (convert 24 9 (.slice (some ⟨w4.heap.size, 0, none⟩) 8 8)).run Try.prog w0 = .ok (.string (mkStr [t0, t1, t2, t3, t4, t5, t6, t7])) w0 := run_str (Bts.of_holds (l := [t0, t1, t2, t3, t4, t5, t6, t7]) hH2) 8; go_simp; try with_reducible rfl
      try simp only [Act.put, List.setIfInBounds_toArray, List.set_cons_zero, List.set_cons_succ]
      refine Go_.take (i := 4) (oi := ⟨some 64, Op.load 23 (Operand.tmp 7), 23, _, _, some (1, true)⟩) (v := ?_) rfl (by kernel_rfl) (by kernel_rfl) (by kernel_rfl) rfl (fun _ _ _ h => h) (Or.inl ⟨by rfl, ?_⟩) ?_
      rotate_left; · intro w0 hS; obtain ⟨hH, hH2, hW⟩ := hS; have h8 := hH.eight; have hst : (convert 24 9 (.slice (some ⟨w4.heap.size, 0, none⟩) 8 8)).run Try.prog w0 = .ok (.string (mkStr [t0, t1, t2, t3, t4, t5, t6, t7])) w0 := run_str (Bts.of_holds (l := [t0, t1, t2, t3, t4, t5, t6, t7]) hH2) 8; go_simp; try with_reducible rfl
      try simp only [Act.put, List.setIfInBounds_toArray, List.set_cons_zero, List.set_cons_succ]
      refine Go_.step (i := 5) (o := ⟨some 65, Op.call { callee := Callee.value (Operand.func 40), args := #[Operand.tmp 64], argTypes := #[32] }, 9, _, _, some (1, true)⟩) (by kernel_rfl) rfl (fun K hT hK => ?_)
      replace hT := hT.1
      rw [if_pos (by rfl)]
      go_simp
      refine (ka_rcheck k _ _ _ _ _ _ _ _ hTT _).mono ?_
      rintro e w' ⟨rfl, hbx⟩
      have hfin := hT.2.2.trans (hbx.mono hT.2.2.size)
      refine hK.out _ _ (Till.of ⟨hT.1.below hbx hT.1.lt, hT.2.1.below hbx hT.2.1.lt, hT.2.2.trans (hbx.mono hT.2.2.size)⟩) ?_
      clear hT hK K
      refine Go_.take (i := 6) (oi := ⟨some 66, Op.binOp BinOp.eql 9 (Operand.tmp 63) (Operand.tmp 65) 9, 4, _, _, some (1, true)⟩) (v := ?_) rfl (by kernel_rfl) (by kernel_rfl) (by kernel_rfl) rfl (fun _ _ _ h => h) (Or.inl ⟨by rfl, ?_⟩) ?_
      rotate_left; · intro w0 _; go_simp; try with_reducible rfl
      try simp only [Act.put, List.setIfInBounds_toArray, List.set_cons_zero, List.set_cons_succ]
      refine Go_.take (i := 7) (oi := ⟨some 67, Op.pick (Operand.tmp 61) (Operand.tmp 66) (Operand.const (Value.bool false)), 4, _, _, none⟩) (v := ?_) rfl (by kernel_rfl) (by kernel_rfl) (by kernel_rfl) rfl (fun _ _ _ h => h) (Or.inl ⟨by rfl, ?_⟩) ?_
      rotate_left; · intro w0 _; go_simp; try with_reducible rfl
      try simp only [Act.put, List.setIfInBounds_toArray, List.set_cons_zero, List.set_cons_succ]
      refine Go_.take (i := 8) (oi := ⟨some 8, Op.assign (Operand.tmp 67), 4, _, _, none⟩) (v := ?_) rfl (by kernel_rfl) (by kernel_rfl) (by kernel_rfl) rfl (fun _ _ _ h => h) (Or.inl ⟨by rfl, ?_⟩) ?_
      rotate_left; · intro w0 _; go_simp; try with_reducible rfl
      try simp only [Act.put, List.setIfInBounds_toArray, List.set_cons_zero, List.set_cons_succ]
      refine Go_.done (by kernel_rfl) ?_
      go_wp2
      go_ret
      exact ⟨ret_boolB (by simp), hfin⟩
end Go.Proofs.Ytcdklmicbbcknaa
