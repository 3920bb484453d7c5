/-
  steamerlaw16.KeySalts answers true and leaves old memory as it was: by a walk of its text (printed by keysalts.py).
-/
import Derived.Test.YtcdklmicbbcknaaKb
namespace Go.Proofs.Ytcdklmicbbcknaa
open Go Go.RowKit
theorem B_beq0 (t : UInt8) (b : Bool) (h : b = decide (t = 0)) : ((t.toNat : Int) == 0) = b := by rw [h, B_zero]
attribute [local go_sem ↓] eql_28_same eql_28_dif
attribute [local go_sem] bits_xor_B
set_option maxRecDepth 20000 in
set_option maxHeartbeats 8000000 in
theorem ks_0z (l : List UInt8) (s : S8) (p : Int) (t : UInt8) (n : Int) (w : World) (h4 : (IntKind.u64.wrap p).tmod 8 = 0) (h100 : ¬ 100 < l.length) (ht : t = 0) :
    Calls Try.prog 13 #[.string (mkStr l), .agg #[.int .u8 (s.s0.toNat : Int), .int .u8 (s.s1.toNat : Int), .int .u8 (s.s2.toNat : Int), .int .u8 (s.s3.toNat : Int), .int .u8 (s.s4.toNat : Int), .int .u8 (s.s5.toNat : Int), .int .u8 (s.s6.toNat : Int), .int .u8 (s.s7.toNat : Int)], .int .i64 p, .int .u8 (t.toNat : Int), .int .i64 n] w fun e w' => e = .returned (.bool true) ∧ Below w.heap.size w w' := by
  have hsz : (mkStr l).size = l.length := mkStr_size l
  have hb0 : Below w.heap.size w ((w.alloc (.cells #[.int .u8 (s.s0.toNat : Int), .int .u8 (s.s1.toNat : Int), .int .u8 (s.s2.toNat : Int), .int .u8 (s.s3.toNat : Int), .int .u8 (s.s4.toNat : Int), .int .u8 (s.s5.toNat : Int), .int .u8 (s.s6.toNat : Int), .int .u8 (s.s7.toNat : Int)] 26)).alloc (.cells #[.int .u8 (s.s0.toNat : Int), .int .u8 (s.s1.toNat : Int), .int .u8 (s.s2.toNat : Int), .int .u8 (s.s3.toNat : Int), .int .u8 (s.s4.toNat : Int), .int .u8 (s.s5.toNat : Int), .int .u8 (s.s6.toNat : Int), .int .u8 (s.s7.toNat : Int)] 26)) := ((Below.refl _ _).alloc (Nat.le_refl _) _).alloc (by simp) _
  obtain ⟨c, hc, hc2⟩ := utmod n 10 (by omega)
  have hc2' : (IntKind.u64.wrap n).tmod 10 = (c : Int) := hc2
  have hc3 := wrap64_small c (by omega)
  obtain ⟨K, hK⟩ : ∃ K, Hid (K = keyL l s (c + 1)) := ⟨_, rfl⟩
  subst ht
  have hx0 : bits .xor .u8 (s.s0.toNat : Int) 0 = (s.s0.toNat : Int) := by have h := bits_xor_B s.s0 0; simpa using h
  have hs0 := (Holds.newAt w 26 [.int .u8 (s.s0.toNat : Int), .int .u8 (s.s1.toNat : Int), .int .u8 (s.s2.toNat : Int), .int .u8 (s.s3.toNat : Int), .int .u8 (s.s4.toNat : Int), .int .u8 (s.s5.toNat : Int), .int .u8 (s.s6.toNat : Int), .int .u8 (s.s7.toNat : Int)] (n := w.heap.size) rfl).alloc (.cells #[.int .u8 (s.s0.toNat : Int), .int .u8 (s.s1.toNat : Int), .int .u8 (s.s2.toNat : Int), .int .u8 (s.s3.toNat : Int), .int .u8 (s.s4.toNat : Int), .int .u8 (s.s5.toNat : Int), .int .u8 (s.s6.toNat : Int), .int .u8 (s.s7.toNat : Int)] 26)
  have ht0 := Holds.newAt (w.alloc (.cells #[.int .u8 (s.s0.toNat : Int), .int .u8 (s.s1.toNat : Int), .int .u8 (s.s2.toNat : Int), .int .u8 (s.s3.toNat : Int), .int .u8 (s.s4.toNat : Int), .int .u8 (s.s5.toNat : Int), .int .u8 (s.s6.toNat : Int), .int .u8 (s.s7.toNat : Int)] 26)) 26 [.int .u8 (s.s0.toNat : Int), .int .u8 (s.s1.toNat : Int), .int .u8 (s.s2.toNat : Int), .int .u8 (s.s3.toNat : Int), .int .u8 (s.s4.toNat : Int), .int .u8 (s.s5.toNat : Int), .int .u8 (s.s6.toNat : Int), .int .u8 (s.s7.toNat : Int)] (n := w.heap.size + 1) (by simp)
  clear hc2
  go_enter Try.func13, Try.ntmps13
  go_wp2_with fail
  refine (kb_good l s (c + 1) _ (by omega) K hK (by omega) (by omega) (by omega) _).mono ?_
  rintro e w1 ⟨rfl, hb1⟩
  have ht1 := (ht0.below hb1 (by simp)).alloc (.cells #[.int .u32 (W K.k0), .int .u32 (W K.k1), .int .u32 (W K.k2), .int .u32 (W K.k3), .int .u32 (W K.k4), .int .u32 (W K.k5), .int .u32 (W K.k6), .int .u32 (W K.k7)] 28)
  have hk1 := Holds.newAt w1 28 [.int .u32 (W K.k0), .int .u32 (W K.k1), .int .u32 (W K.k2), .int .u32 (W K.k3), .int .u32 (W K.k4), .int .u32 (W K.k5), .int .u32 (W K.k6), .int .u32 (W K.k7)] (n := w1.heap.size) rfl
  have hbw1 := (hb0.trans (hb1.mono (by simp; omega))).alloc (by have := hb1.size; simp at this; omega) (.cells #[.int .u32 (W K.k0), .int .u32 (W K.k1), .int .u32 (W K.k2), .int .u32 (W K.k3), .int .u32 (W K.k4), .int .u32 (W K.k5), .int .u32 (W K.k6), .int .u32 (W K.k7)] 28)
  have t8 := ht1.eight
  clear hs0 ht0 hb0 hb1
  go_wp2_with fail
  refine (kb_good l s (c + 1) _ (by omega) K hK (by omega) (by omega) (by omega) _).mono ?_
  rintro e w2 ⟨rfl, hb2⟩
  have hk2 := (hk1.below hb2 hk1.lt).alloc (.cells #[.int .u32 (W K.k0), .int .u32 (W K.k1), .int .u32 (W K.k2), .int .u32 (W K.k3), .int .u32 (W K.k4), .int .u32 (W K.k5), .int .u32 (W K.k6), .int .u32 (W K.k7)] 28)
  have hm2 := Holds.newAt w2 28 [.int .u32 (W K.k0), .int .u32 (W K.k1), .int .u32 (W K.k2), .int .u32 (W K.k3), .int .u32 (W K.k4), .int .u32 (W K.k5), .int .u32 (W K.k6), .int .u32 (W K.k7)] (n := w2.heap.size) rfl
  have hbw2 := (hbw1.trans (hb2.mono hbw1.size)).alloc (by have := hbw1.size; have := hb2.size; omega) (.cells #[.int .u32 (W K.k0), .int .u32 (W K.k1), .int .u32 (W K.k2), .int .u32 (W K.k3), .int .u32 (W K.k4), .int .u32 (W K.k5), .int .u32 (W K.k6), .int .u32 (W K.k7)] 28)
  clear t8 ht1 hk1 hbw1 hb2
  go_wp2_with fail
  refine (told16 _).mono ?_
  rintro e w4 ⟨rfl, hb4⟩
  have k8 := (hk2.below hb4 hk2.lt).eight
  have m8 := (hm2.below hb4 hm2.lt).eight
  have hfin := hbw2.trans (hb4.mono hbw2.size)
  clear hk2 hm2 hbw2 hb4
  go_wp2_with fail
  go_ret
  exact ⟨ret_boolB (by simp), hfin⟩
set_option maxRecDepth 20000 in
set_option maxHeartbeats 8000000 in
theorem ks_0n (l : List UInt8) (s : S8) (p : Int) (t : UInt8) (n : Int) (w : World) (h4 : (IntKind.u64.wrap p).tmod 8 = 0) (h100 : ¬ 100 < l.length) (ht : t ≠ 0) :
    Calls Try.prog 13 #[.string (mkStr l), .agg #[.int .u8 (s.s0.toNat : Int), .int .u8 (s.s1.toNat : Int), .int .u8 (s.s2.toNat : Int), .int .u8 (s.s3.toNat : Int), .int .u8 (s.s4.toNat : Int), .int .u8 (s.s5.toNat : Int), .int .u8 (s.s6.toNat : Int), .int .u8 (s.s7.toNat : Int)], .int .i64 p, .int .u8 (t.toNat : Int), .int .i64 n] w fun e w' => e = .returned (.bool true) ∧ Below w.heap.size w w' := by
  have hsz : (mkStr l).size = l.length := mkStr_size l
  have hb0 : Below w.heap.size w ((w.alloc (.cells #[.int .u8 (s.s0.toNat : Int), .int .u8 (s.s1.toNat : Int), .int .u8 (s.s2.toNat : Int), .int .u8 (s.s3.toNat : Int), .int .u8 (s.s4.toNat : Int), .int .u8 (s.s5.toNat : Int), .int .u8 (s.s6.toNat : Int), .int .u8 (s.s7.toNat : Int)] 26)).alloc (.cells #[.int .u8 ((s.s0 ^^^ t).toNat : Int), .int .u8 (s.s1.toNat : Int), .int .u8 (s.s2.toNat : Int), .int .u8 (s.s3.toNat : Int), .int .u8 (s.s4.toNat : Int), .int .u8 (s.s5.toNat : Int), .int .u8 (s.s6.toNat : Int), .int .u8 (s.s7.toNat : Int)] 26)) := ((Below.refl _ _).alloc (Nat.le_refl _) _).alloc (by simp) _
  obtain ⟨c, hc, hc2⟩ := utmod n 10 (by omega)
  have hc2' : (IntKind.u64.wrap n).tmod 10 = (c : Int) := hc2
  have hc3 := wrap64_small c (by omega)
  obtain ⟨K, hK⟩ : ∃ K, Hid (K = keyL l s (c + 1)) := ⟨_, rfl⟩
  obtain ⟨M, hM⟩ : ∃ M, Hid (M = keyL l ⟨s.s0 ^^^ t, s.s1, s.s2, s.s3, s.s4, s.s5, s.s6, s.s7⟩ (c + 1)) := ⟨_, rfl⟩
  have hdif := kb_Ne (A := K) (B := M) (fun e => ht (by
    rw [hK.out, hM.out] at e
    have e2 := congrArg S8.s0 (keyL_inj l _ _ _ e)
    exact (xor_self_iff s.s0 t).1 e2))
  have hbt : ((t.toNat : Int) == 0) = false := B_beq0 t false (by simp [ht])
  have hs0 := (Holds.newAt w 26 [.int .u8 (s.s0.toNat : Int), .int .u8 (s.s1.toNat : Int), .int .u8 (s.s2.toNat : Int), .int .u8 (s.s3.toNat : Int), .int .u8 (s.s4.toNat : Int), .int .u8 (s.s5.toNat : Int), .int .u8 (s.s6.toNat : Int), .int .u8 (s.s7.toNat : Int)] (n := w.heap.size) rfl).alloc (.cells #[.int .u8 ((s.s0 ^^^ t).toNat : Int), .int .u8 (s.s1.toNat : Int), .int .u8 (s.s2.toNat : Int), .int .u8 (s.s3.toNat : Int), .int .u8 (s.s4.toNat : Int), .int .u8 (s.s5.toNat : Int), .int .u8 (s.s6.toNat : Int), .int .u8 (s.s7.toNat : Int)] 26)
  have ht0 := Holds.newAt (w.alloc (.cells #[.int .u8 (s.s0.toNat : Int), .int .u8 (s.s1.toNat : Int), .int .u8 (s.s2.toNat : Int), .int .u8 (s.s3.toNat : Int), .int .u8 (s.s4.toNat : Int), .int .u8 (s.s5.toNat : Int), .int .u8 (s.s6.toNat : Int), .int .u8 (s.s7.toNat : Int)] 26)) 26 [.int .u8 ((s.s0 ^^^ t).toNat : Int), .int .u8 (s.s1.toNat : Int), .int .u8 (s.s2.toNat : Int), .int .u8 (s.s3.toNat : Int), .int .u8 (s.s4.toNat : Int), .int .u8 (s.s5.toNat : Int), .int .u8 (s.s6.toNat : Int), .int .u8 (s.s7.toNat : Int)] (n := w.heap.size + 1) (by simp)
  clear hc2
  go_enter Try.func13, Try.ntmps13
  go_wp2_with fail
  refine (kb_good l s (c + 1) _ (by omega) K hK (by omega) (by omega) (by omega) _).mono ?_
  rintro e w1 ⟨rfl, hb1⟩
  have ht1 := (ht0.below hb1 (by simp)).alloc (.cells #[.int .u32 (W K.k0), .int .u32 (W K.k1), .int .u32 (W K.k2), .int .u32 (W K.k3), .int .u32 (W K.k4), .int .u32 (W K.k5), .int .u32 (W K.k6), .int .u32 (W K.k7)] 28)
  have hk1 := Holds.newAt w1 28 [.int .u32 (W K.k0), .int .u32 (W K.k1), .int .u32 (W K.k2), .int .u32 (W K.k3), .int .u32 (W K.k4), .int .u32 (W K.k5), .int .u32 (W K.k6), .int .u32 (W K.k7)] (n := w1.heap.size) rfl
  have hbw1 := (hb0.trans (hb1.mono (by simp; omega))).alloc (by have := hb1.size; simp at this; omega) (.cells #[.int .u32 (W K.k0), .int .u32 (W K.k1), .int .u32 (W K.k2), .int .u32 (W K.k3), .int .u32 (W K.k4), .int .u32 (W K.k5), .int .u32 (W K.k6), .int .u32 (W K.k7)] 28)
  have t8 := ht1.eight
  clear hs0 ht0 hb0 hb1
  go_wp2_with fail
  refine (kb_good l ⟨s.s0 ^^^ t, s.s1, s.s2, s.s3, s.s4, s.s5, s.s6, s.s7⟩ (c + 1) _ (by omega) M hM (by omega) (by omega) (by omega) _).mono ?_
  rintro e w2 ⟨rfl, hb2⟩
  have hk2 := (hk1.below hb2 hk1.lt).alloc (.cells #[.int .u32 (W M.k0), .int .u32 (W M.k1), .int .u32 (W M.k2), .int .u32 (W M.k3), .int .u32 (W M.k4), .int .u32 (W M.k5), .int .u32 (W M.k6), .int .u32 (W M.k7)] 28)
  have hm2 := Holds.newAt w2 28 [.int .u32 (W M.k0), .int .u32 (W M.k1), .int .u32 (W M.k2), .int .u32 (W M.k3), .int .u32 (W M.k4), .int .u32 (W M.k5), .int .u32 (W M.k6), .int .u32 (W M.k7)] (n := w2.heap.size) rfl
  have hbw2 := (hbw1.trans (hb2.mono hbw1.size)).alloc (by have := hbw1.size; have := hb2.size; omega) (.cells #[.int .u32 (W M.k0), .int .u32 (W M.k1), .int .u32 (W M.k2), .int .u32 (W M.k3), .int .u32 (W M.k4), .int .u32 (W M.k5), .int .u32 (W M.k6), .int .u32 (W M.k7)] 28)
  clear t8 ht1 hk1 hbw1 hb2
  go_wp2_with fail
  refine (told16 _).mono ?_
  rintro e w4 ⟨rfl, hb4⟩
  have k8 := (hk2.below hb4 hk2.lt).eight
  have m8 := (hm2.below hb4 hm2.lt).eight
  have hfin := hbw2.trans (hb4.mono hbw2.size)
  clear hk2 hm2 hbw2 hb4
  go_wp2_with fail
  go_ret
  exact ⟨ret_boolB (by simp), hfin⟩
set_option maxRecDepth 20000 in
set_option maxHeartbeats 8000000 in
theorem ks_1z (l : List UInt8) (s : S8) (p : Int) (t : UInt8) (n : Int) (w : World) (h4 : (IntKind.u64.wrap p).tmod 8 = 1) (h100 : ¬ 100 < l.length) (ht : t = 0) :
    Calls Try.prog 13 #[.string (mkStr l), .agg #[.int .u8 (s.s0.toNat : Int), .int .u8 (s.s1.toNat : Int), .int .u8 (s.s2.toNat : Int), .int .u8 (s.s3.toNat : Int), .int .u8 (s.s4.toNat : Int), .int .u8 (s.s5.toNat : Int), .int .u8 (s.s6.toNat : Int), .int .u8 (s.s7.toNat : Int)], .int .i64 p, .int .u8 (t.toNat : Int), .int .i64 n] w fun e w' => e = .returned (.bool true) ∧ Below w.heap.size w w' := by
  have hsz : (mkStr l).size = l.length := mkStr_size l
  have hb0 : Below w.heap.size w ((w.alloc (.cells #[.int .u8 (s.s0.toNat : Int), .int .u8 (s.s1.toNat : Int), .int .u8 (s.s2.toNat : Int), .int .u8 (s.s3.toNat : Int), .int .u8 (s.s4.toNat : Int), .int .u8 (s.s5.toNat : Int), .int .u8 (s.s6.toNat : Int), .int .u8 (s.s7.toNat : Int)] 26)).alloc (.cells #[.int .u8 (s.s0.toNat : Int), .int .u8 (s.s1.toNat : Int), .int .u8 (s.s2.toNat : Int), .int .u8 (s.s3.toNat : Int), .int .u8 (s.s4.toNat : Int), .int .u8 (s.s5.toNat : Int), .int .u8 (s.s6.toNat : Int), .int .u8 (s.s7.toNat : Int)] 26)) := ((Below.refl _ _).alloc (Nat.le_refl _) _).alloc (by simp) _
  obtain ⟨c, hc, hc2⟩ := utmod n 10 (by omega)
  have hc2' : (IntKind.u64.wrap n).tmod 10 = (c : Int) := hc2
  have hc3 := wrap64_small c (by omega)
  obtain ⟨K, hK⟩ : ∃ K, Hid (K = keyL l s (c + 1)) := ⟨_, rfl⟩
  subst ht
  have hx0 : bits .xor .u8 (s.s1.toNat : Int) 0 = (s.s1.toNat : Int) := by have h := bits_xor_B s.s1 0; simpa using h
  have hs0 := (Holds.newAt w 26 [.int .u8 (s.s0.toNat : Int), .int .u8 (s.s1.toNat : Int), .int .u8 (s.s2.toNat : Int), .int .u8 (s.s3.toNat : Int), .int .u8 (s.s4.toNat : Int), .int .u8 (s.s5.toNat : Int), .int .u8 (s.s6.toNat : Int), .int .u8 (s.s7.toNat : Int)] (n := w.heap.size) rfl).alloc (.cells #[.int .u8 (s.s0.toNat : Int), .int .u8 (s.s1.toNat : Int), .int .u8 (s.s2.toNat : Int), .int .u8 (s.s3.toNat : Int), .int .u8 (s.s4.toNat : Int), .int .u8 (s.s5.toNat : Int), .int .u8 (s.s6.toNat : Int), .int .u8 (s.s7.toNat : Int)] 26)
  have ht0 := Holds.newAt (w.alloc (.cells #[.int .u8 (s.s0.toNat : Int), .int .u8 (s.s1.toNat : Int), .int .u8 (s.s2.toNat : Int), .int .u8 (s.s3.toNat : Int), .int .u8 (s.s4.toNat : Int), .int .u8 (s.s5.toNat : Int), .int .u8 (s.s6.toNat : Int), .int .u8 (s.s7.toNat : Int)] 26)) 26 [.int .u8 (s.s0.toNat : Int), .int .u8 (s.s1.toNat : Int), .int .u8 (s.s2.toNat : Int), .int .u8 (s.s3.toNat : Int), .int .u8 (s.s4.toNat : Int), .int .u8 (s.s5.toNat : Int), .int .u8 (s.s6.toNat : Int), .int .u8 (s.s7.toNat : Int)] (n := w.heap.size + 1) (by simp)
  clear hc2
  go_enter Try.func13, Try.ntmps13
  go_wp2_with fail
  refine (kb_good l s (c + 1) _ (by omega) K hK (by omega) (by omega) (by omega) _).mono ?_
  rintro e w1 ⟨rfl, hb1⟩
  have ht1 := (ht0.below hb1 (by simp)).alloc (.cells #[.int .u32 (W K.k0), .int .u32 (W K.k1), .int .u32 (W K.k2), .int .u32 (W K.k3), .int .u32 (W K.k4), .int .u32 (W K.k5), .int .u32 (W K.k6), .int .u32 (W K.k7)] 28)
  have hk1 := Holds.newAt w1 28 [.int .u32 (W K.k0), .int .u32 (W K.k1), .int .u32 (W K.k2), .int .u32 (W K.k3), .int .u32 (W K.k4), .int .u32 (W K.k5), .int .u32 (W K.k6), .int .u32 (W K.k7)] (n := w1.heap.size) rfl
  have hbw1 := (hb0.trans (hb1.mono (by simp; omega))).alloc (by have := hb1.size; simp at this; omega) (.cells #[.int .u32 (W K.k0), .int .u32 (W K.k1), .int .u32 (W K.k2), .int .u32 (W K.k3), .int .u32 (W K.k4), .int .u32 (W K.k5), .int .u32 (W K.k6), .int .u32 (W K.k7)] 28)
  have t8 := ht1.eight
  clear hs0 ht0 hb0 hb1
  go_wp2_with fail
  refine (kb_good l s (c + 1) _ (by omega) K hK (by omega) (by omega) (by omega) _).mono ?_
  rintro e w2 ⟨rfl, hb2⟩
  have hk2 := (hk1.below hb2 hk1.lt).alloc (.cells #[.int .u32 (W K.k0), .int .u32 (W K.k1), .int .u32 (W K.k2), .int .u32 (W K.k3), .int .u32 (W K.k4), .int .u32 (W K.k5), .int .u32 (W K.k6), .int .u32 (W K.k7)] 28)
  have hm2 := Holds.newAt w2 28 [.int .u32 (W K.k0), .int .u32 (W K.k1), .int .u32 (W K.k2), .int .u32 (W K.k3), .int .u32 (W K.k4), .int .u32 (W K.k5), .int .u32 (W K.k6), .int .u32 (W K.k7)] (n := w2.heap.size) rfl
  have hbw2 := (hbw1.trans (hb2.mono hbw1.size)).alloc (by have := hbw1.size; have := hb2.size; omega) (.cells #[.int .u32 (W K.k0), .int .u32 (W K.k1), .int .u32 (W K.k2), .int .u32 (W K.k3), .int .u32 (W K.k4), .int .u32 (W K.k5), .int .u32 (W K.k6), .int .u32 (W K.k7)] 28)
  clear t8 ht1 hk1 hbw1 hb2
  go_wp2_with fail
  refine (told16 _).mono ?_
  rintro e w4 ⟨rfl, hb4⟩
  have k8 := (hk2.below hb4 hk2.lt).eight
  have m8 := (hm2.below hb4 hm2.lt).eight
  have hfin := hbw2.trans (hb4.mono hbw2.size)
  clear hk2 hm2 hbw2 hb4
  go_wp2_with fail
  go_ret
  exact ⟨ret_boolB (by simp), hfin⟩
set_option maxRecDepth 20000 in
set_option maxHeartbeats 8000000 in
theorem ks_1n (l : List UInt8) (s : S8) (p : Int) (t : UInt8) (n : Int) (w : World) (h4 : (IntKind.u64.wrap p).tmod 8 = 1) (h100 : ¬ 100 < l.length) (ht : t ≠ 0) :
    Calls Try.prog 13 #[.string (mkStr l), .agg #[.int .u8 (s.s0.toNat : Int), .int .u8 (s.s1.toNat : Int), .int .u8 (s.s2.toNat : Int), .int .u8 (s.s3.toNat : Int), .int .u8 (s.s4.toNat : Int), .int .u8 (s.s5.toNat : Int), .int .u8 (s.s6.toNat : Int), .int .u8 (s.s7.toNat : Int)], .int .i64 p, .int .u8 (t.toNat : Int), .int .i64 n] w fun e w' => e = .returned (.bool true) ∧ Below w.heap.size w w' := by
  have hsz : (mkStr l).size = l.length := mkStr_size l
  have hb0 : Below w.heap.size w ((w.alloc (.cells #[.int .u8 (s.s0.toNat : Int), .int .u8 (s.s1.toNat : Int), .int .u8 (s.s2.toNat : Int), .int .u8 (s.s3.toNat : Int), .int .u8 (s.s4.toNat : Int), .int .u8 (s.s5.toNat : Int), .int .u8 (s.s6.toNat : Int), .int .u8 (s.s7.toNat : Int)] 26)).alloc (.cells #[.int .u8 (s.s0.toNat : Int), .int .u8 ((s.s1 ^^^ t).toNat : Int), .int .u8 (s.s2.toNat : Int), .int .u8 (s.s3.toNat : Int), .int .u8 (s.s4.toNat : Int), .int .u8 (s.s5.toNat : Int), .int .u8 (s.s6.toNat : Int), .int .u8 (s.s7.toNat : Int)] 26)) := ((Below.refl _ _).alloc (Nat.le_refl _) _).alloc (by simp) _
  obtain ⟨c, hc, hc2⟩ := utmod n 10 (by omega)
  have hc2' : (IntKind.u64.wrap n).tmod 10 = (c : Int) := hc2
  have hc3 := wrap64_small c (by omega)
  obtain ⟨K, hK⟩ : ∃ K, Hid (K = keyL l s (c + 1)) := ⟨_, rfl⟩
  obtain ⟨M, hM⟩ : ∃ M, Hid (M = keyL l ⟨s.s0, s.s1 ^^^ t, s.s2, s.s3, s.s4, s.s5, s.s6, s.s7⟩ (c + 1)) := ⟨_, rfl⟩
  have hdif := kb_Ne (A := K) (B := M) (fun e => ht (by
    rw [hK.out, hM.out] at e
    have e2 := congrArg S8.s1 (keyL_inj l _ _ _ e)
    exact (xor_self_iff s.s1 t).1 e2))
  have hbt : ((t.toNat : Int) == 0) = false := B_beq0 t false (by simp [ht])
  have hs0 := (Holds.newAt w 26 [.int .u8 (s.s0.toNat : Int), .int .u8 (s.s1.toNat : Int), .int .u8 (s.s2.toNat : Int), .int .u8 (s.s3.toNat : Int), .int .u8 (s.s4.toNat : Int), .int .u8 (s.s5.toNat : Int), .int .u8 (s.s6.toNat : Int), .int .u8 (s.s7.toNat : Int)] (n := w.heap.size) rfl).alloc (.cells #[.int .u8 (s.s0.toNat : Int), .int .u8 ((s.s1 ^^^ t).toNat : Int), .int .u8 (s.s2.toNat : Int), .int .u8 (s.s3.toNat : Int), .int .u8 (s.s4.toNat : Int), .int .u8 (s.s5.toNat : Int), .int .u8 (s.s6.toNat : Int), .int .u8 (s.s7.toNat : Int)] 26)
  have ht0 := Holds.newAt (w.alloc (.cells #[.int .u8 (s.s0.toNat : Int), .int .u8 (s.s1.toNat : Int), .int .u8 (s.s2.toNat : Int), .int .u8 (s.s3.toNat : Int), .int .u8 (s.s4.toNat : Int), .int .u8 (s.s5.toNat : Int), .int .u8 (s.s6.toNat : Int), .int .u8 (s.s7.toNat : Int)] 26)) 26 [.int .u8 (s.s0.toNat : Int), .int .u8 ((s.s1 ^^^ t).toNat : Int), .int .u8 (s.s2.toNat : Int), .int .u8 (s.s3.toNat : Int), .int .u8 (s.s4.toNat : Int), .int .u8 (s.s5.toNat : Int), .int .u8 (s.s6.toNat : Int), .int .u8 (s.s7.toNat : Int)] (n := w.heap.size + 1) (by simp)
  clear hc2
  go_enter Try.func13, Try.ntmps13
  go_wp2_with fail
  refine (kb_good l s (c + 1) _ (by omega) K hK (by omega) (by omega) (by omega) _).mono ?_
  rintro e w1 ⟨rfl, hb1⟩
  have ht1 := (ht0.below hb1 (by simp)).alloc (.cells #[.int .u32 (W K.k0), .int .u32 (W K.k1), .int .u32 (W K.k2), .int .u32 (W K.k3), .int .u32 (W K.k4), .int .u32 (W K.k5), .int .u32 (W K.k6), .int .u32 (W K.k7)] 28)
  have hk1 := Holds.newAt w1 28 [.int .u32 (W K.k0), .int .u32 (W K.k1), .int .u32 (W K.k2), .int .u32 (W K.k3), .int .u32 (W K.k4), .int .u32 (W K.k5), .int .u32 (W K.k6), .int .u32 (W K.k7)] (n := w1.heap.size) rfl
  have hbw1 := (hb0.trans (hb1.mono (by simp; omega))).alloc (by have := hb1.size; simp at this; omega) (.cells #[.int .u32 (W K.k0), .int .u32 (W K.k1), .int .u32 (W K.k2), .int .u32 (W K.k3), .int .u32 (W K.k4), .int .u32 (W K.k5), .int .u32 (W K.k6), .int .u32 (W K.k7)] 28)
  have t8 := ht1.eight
  clear hs0 ht0 hb0 hb1
  go_wp2_with fail
  refine (kb_good l ⟨s.s0, s.s1 ^^^ t, s.s2, s.s3, s.s4, s.s5, s.s6, s.s7⟩ (c + 1) _ (by omega) M hM (by omega) (by omega) (by omega) _).mono ?_
  rintro e w2 ⟨rfl, hb2⟩
  have hk2 := (hk1.below hb2 hk1.lt).alloc (.cells #[.int .u32 (W M.k0), .int .u32 (W M.k1), .int .u32 (W M.k2), .int .u32 (W M.k3), .int .u32 (W M.k4), .int .u32 (W M.k5), .int .u32 (W M.k6), .int .u32 (W M.k7)] 28)
  have hm2 := Holds.newAt w2 28 [.int .u32 (W M.k0), .int .u32 (W M.k1), .int .u32 (W M.k2), .int .u32 (W M.k3), .int .u32 (W M.k4), .int .u32 (W M.k5), .int .u32 (W M.k6), .int .u32 (W M.k7)] (n := w2.heap.size) rfl
  have hbw2 := (hbw1.trans (hb2.mono hbw1.size)).alloc (by have := hbw1.size; have := hb2.size; omega) (.cells #[.int .u32 (W M.k0), .int .u32 (W M.k1), .int .u32 (W M.k2), .int .u32 (W M.k3), .int .u32 (W M.k4), .int .u32 (W M.k5), .int .u32 (W M.k6), .int .u32 (W M.k7)] 28)
  clear t8 ht1 hk1 hbw1 hb2
  go_wp2_with fail
  refine (told16 _).mono ?_
  rintro e w4 ⟨rfl, hb4⟩
  have k8 := (hk2.below hb4 hk2.lt).eight
  have m8 := (hm2.below hb4 hm2.lt).eight
  have hfin := hbw2.trans (hb4.mono hbw2.size)
  clear hk2 hm2 hbw2 hb4
  go_wp2_with fail
  go_ret
  exact ⟨ret_boolB (by simp), hfin⟩
set_option maxRecDepth 20000 in
set_option maxHeartbeats 8000000 in
theorem ks_2z (l : List UInt8) (s : S8) (p : Int) (t : UInt8) (n : Int) (w : World) (h4 : (IntKind.u64.wrap p).tmod 8 = 2) (h100 : ¬ 100 < l.length) (ht : t = 0) :
    Calls Try.prog 13 #[.string (mkStr l), .agg #[.int .u8 (s.s0.toNat : Int), .int .u8 (s.s1.toNat : Int), .int .u8 (s.s2.toNat : Int), .int .u8 (s.s3.toNat : Int), .int .u8 (s.s4.toNat : Int), .int .u8 (s.s5.toNat : Int), .int .u8 (s.s6.toNat : Int), .int .u8 (s.s7.toNat : Int)], .int .i64 p, .int .u8 (t.toNat : Int), .int .i64 n] w fun e w' => e = .returned (.bool true) ∧ Below w.heap.size w w' := by
  have hsz : (mkStr l).size = l.length := mkStr_size l
  have hb0 : Below w.heap.size w ((w.alloc (.cells #[.int .u8 (s.s0.toNat : Int), .int .u8 (s.s1.toNat : Int), .int .u8 (s.s2.toNat : Int), .int .u8 (s.s3.toNat : Int), .int .u8 (s.s4.toNat : Int), .int .u8 (s.s5.toNat : Int), .int .u8 (s.s6.toNat : Int), .int .u8 (s.s7.toNat : Int)] 26)).alloc (.cells #[.int .u8 (s.s0.toNat : Int), .int .u8 (s.s1.toNat : Int), .int .u8 (s.s2.toNat : Int), .int .u8 (s.s3.toNat : Int), .int .u8 (s.s4.toNat : Int), .int .u8 (s.s5.toNat : Int), .int .u8 (s.s6.toNat : Int), .int .u8 (s.s7.toNat : Int)] 26)) := ((Below.refl _ _).alloc (Nat.le_refl _) _).alloc (by simp) _
  obtain ⟨c, hc, hc2⟩ := utmod n 10 (by omega)
  have hc2' : (IntKind.u64.wrap n).tmod 10 = (c : Int) := hc2
  have hc3 := wrap64_small c (by omega)
  obtain ⟨K, hK⟩ : ∃ K, Hid (K = keyL l s (c + 1)) := ⟨_, rfl⟩
  subst ht
  have hx0 : bits .xor .u8 (s.s2.toNat : Int) 0 = (s.s2.toNat : Int) := by have h := bits_xor_B s.s2 0; simpa using h
  have hs0 := (Holds.newAt w 26 [.int .u8 (s.s0.toNat : Int), .int .u8 (s.s1.toNat : Int), .int .u8 (s.s2.toNat : Int), .int .u8 (s.s3.toNat : Int), .int .u8 (s.s4.toNat : Int), .int .u8 (s.s5.toNat : Int), .int .u8 (s.s6.toNat : Int), .int .u8 (s.s7.toNat : Int)] (n := w.heap.size) rfl).alloc (.cells #[.int .u8 (s.s0.toNat : Int), .int .u8 (s.s1.toNat : Int), .int .u8 (s.s2.toNat : Int), .int .u8 (s.s3.toNat : Int), .int .u8 (s.s4.toNat : Int), .int .u8 (s.s5.toNat : Int), .int .u8 (s.s6.toNat : Int), .int .u8 (s.s7.toNat : Int)] 26)
  have ht0 := Holds.newAt (w.alloc (.cells #[.int .u8 (s.s0.toNat : Int), .int .u8 (s.s1.toNat : Int), .int .u8 (s.s2.toNat : Int), .int .u8 (s.s3.toNat : Int), .int .u8 (s.s4.toNat : Int), .int .u8 (s.s5.toNat : Int), .int .u8 (s.s6.toNat : Int), .int .u8 (s.s7.toNat : Int)] 26)) 26 [.int .u8 (s.s0.toNat : Int), .int .u8 (s.s1.toNat : Int), .int .u8 (s.s2.toNat : Int), .int .u8 (s.s3.toNat : Int), .int .u8 (s.s4.toNat : Int), .int .u8 (s.s5.toNat : Int), .int .u8 (s.s6.toNat : Int), .int .u8 (s.s7.toNat : Int)] (n := w.heap.size + 1) (by simp)
  clear hc2
  go_enter Try.func13, Try.ntmps13
  go_wp2_with fail
  refine (kb_good l s (c + 1) _ (by omega) K hK (by omega) (by omega) (by omega) _).mono ?_
  rintro e w1 ⟨rfl, hb1⟩
  have ht1 := (ht0.below hb1 (by simp)).alloc (.cells #[.int .u32 (W K.k0), .int .u32 (W K.k1), .int .u32 (W K.k2), .int .u32 (W K.k3), .int .u32 (W K.k4), .int .u32 (W K.k5), .int .u32 (W K.k6), .int .u32 (W K.k7)] 28)
  have hk1 := Holds.newAt w1 28 [.int .u32 (W K.k0), .int .u32 (W K.k1), .int .u32 (W K.k2), .int .u32 (W K.k3), .int .u32 (W K.k4), .int .u32 (W K.k5), .int .u32 (W K.k6), .int .u32 (W K.k7)] (n := w1.heap.size) rfl
  have hbw1 := (hb0.trans (hb1.mono (by simp; omega))).alloc (by have := hb1.size; simp at this; omega) (.cells #[.int .u32 (W K.k0), .int .u32 (W K.k1), .int .u32 (W K.k2), .int .u32 (W K.k3), .int .u32 (W K.k4), .int .u32 (W K.k5), .int .u32 (W K.k6), .int .u32 (W K.k7)] 28)
  have t8 := ht1.eight
  clear hs0 ht0 hb0 hb1
  go_wp2_with fail
  refine (kb_good l s (c + 1) _ (by omega) K hK (by omega) (by omega) (by omega) _).mono ?_
  rintro e w2 ⟨rfl, hb2⟩
  have hk2 := (hk1.below hb2 hk1.lt).alloc (.cells #[.int .u32 (W K.k0), .int .u32 (W K.k1), .int .u32 (W K.k2), .int .u32 (W K.k3), .int .u32 (W K.k4), .int .u32 (W K.k5), .int .u32 (W K.k6), .int .u32 (W K.k7)] 28)
  have hm2 := Holds.newAt w2 28 [.int .u32 (W K.k0), .int .u32 (W K.k1), .int .u32 (W K.k2), .int .u32 (W K.k3), .int .u32 (W K.k4), .int .u32 (W K.k5), .int .u32 (W K.k6), .int .u32 (W K.k7)] (n := w2.heap.size) rfl
  have hbw2 := (hbw1.trans (hb2.mono hbw1.size)).alloc (by have := hbw1.size; have := hb2.size; omega) (.cells #[.int .u32 (W K.k0), .int .u32 (W K.k1), .int .u32 (W K.k2), .int .u32 (W K.k3), .int .u32 (W K.k4), .int .u32 (W K.k5), .int .u32 (W K.k6), .int .u32 (W K.k7)] 28)
  clear t8 ht1 hk1 hbw1 hb2
  go_wp2_with fail
  refine (told16 _).mono ?_
  rintro e w4 ⟨rfl, hb4⟩
  have k8 := (hk2.below hb4 hk2.lt).eight
  have m8 := (hm2.below hb4 hm2.lt).eight
  have hfin := hbw2.trans (hb4.mono hbw2.size)
  clear hk2 hm2 hbw2 hb4
  go_wp2_with fail
  go_ret
  exact ⟨ret_boolB (by simp), hfin⟩
set_option maxRecDepth 20000 in
set_option maxHeartbeats 8000000 in
theorem ks_2n (l : List UInt8) (s : S8) (p : Int) (t : UInt8) (n : Int) (w : World) (h4 : (IntKind.u64.wrap p).tmod 8 = 2) (h100 : ¬ 100 < l.length) (ht : t ≠ 0) :
    Calls Try.prog 13 #[.string (mkStr l), .agg #[.int .u8 (s.s0.toNat : Int), .int .u8 (s.s1.toNat : Int), .int .u8 (s.s2.toNat : Int), .int .u8 (s.s3.toNat : Int), .int .u8 (s.s4.toNat : Int), .int .u8 (s.s5.toNat : Int), .int .u8 (s.s6.toNat : Int), .int .u8 (s.s7.toNat : Int)], .int .i64 p, .int .u8 (t.toNat : Int), .int .i64 n] w fun e w' => e = .returned (.bool true) ∧ Below w.heap.size w w' := by
  have hsz : (mkStr l).size = l.length := mkStr_size l
  have hb0 : Below w.heap.size w ((w.alloc (.cells #[.int .u8 (s.s0.toNat : Int), .int .u8 (s.s1.toNat : Int), .int .u8 (s.s2.toNat : Int), .int .u8 (s.s3.toNat : Int), .int .u8 (s.s4.toNat : Int), .int .u8 (s.s5.toNat : Int), .int .u8 (s.s6.toNat : Int), .int .u8 (s.s7.toNat : Int)] 26)).alloc (.cells #[.int .u8 (s.s0.toNat : Int), .int .u8 (s.s1.toNat : Int), .int .u8 ((s.s2 ^^^ t).toNat : Int), .int .u8 (s.s3.toNat : Int), .int .u8 (s.s4.toNat : Int), .int .u8 (s.s5.toNat : Int), .int .u8 (s.s6.toNat : Int), .int .u8 (s.s7.toNat : Int)] 26)) := ((Below.refl _ _).alloc (Nat.le_refl _) _).alloc (by simp) _
  obtain ⟨c, hc, hc2⟩ := utmod n 10 (by omega)
  have hc2' : (IntKind.u64.wrap n).tmod 10 = (c : Int) := hc2
  have hc3 := wrap64_small c (by omega)
  obtain ⟨K, hK⟩ : ∃ K, Hid (K = keyL l s (c + 1)) := ⟨_, rfl⟩
  obtain ⟨M, hM⟩ : ∃ M, Hid (M = keyL l ⟨s.s0, s.s1, s.s2 ^^^ t, s.s3, s.s4, s.s5, s.s6, s.s7⟩ (c + 1)) := ⟨_, rfl⟩
  have hdif := kb_Ne (A := K) (B := M) (fun e => ht (by
    rw [hK.out, hM.out] at e
    have e2 := congrArg S8.s2 (keyL_inj l _ _ _ e)
    exact (xor_self_iff s.s2 t).1 e2))
  have hbt : ((t.toNat : Int) == 0) = false := B_beq0 t false (by simp [ht])
  have hs0 := (Holds.newAt w 26 [.int .u8 (s.s0.toNat : Int), .int .u8 (s.s1.toNat : Int), .int .u8 (s.s2.toNat : Int), .int .u8 (s.s3.toNat : Int), .int .u8 (s.s4.toNat : Int), .int .u8 (s.s5.toNat : Int), .int .u8 (s.s6.toNat : Int), .int .u8 (s.s7.toNat : Int)] (n := w.heap.size) rfl).alloc (.cells #[.int .u8 (s.s0.toNat : Int), .int .u8 (s.s1.toNat : Int), .int .u8 ((s.s2 ^^^ t).toNat : Int), .int .u8 (s.s3.toNat : Int), .int .u8 (s.s4.toNat : Int), .int .u8 (s.s5.toNat : Int), .int .u8 (s.s6.toNat : Int), .int .u8 (s.s7.toNat : Int)] 26)
  have ht0 := Holds.newAt (w.alloc (.cells #[.int .u8 (s.s0.toNat : Int), .int .u8 (s.s1.toNat : Int), .int .u8 (s.s2.toNat : Int), .int .u8 (s.s3.toNat : Int), .int .u8 (s.s4.toNat : Int), .int .u8 (s.s5.toNat : Int), .int .u8 (s.s6.toNat : Int), .int .u8 (s.s7.toNat : Int)] 26)) 26 [.int .u8 (s.s0.toNat : Int), .int .u8 (s.s1.toNat : Int), .int .u8 ((s.s2 ^^^ t).toNat : Int), .int .u8 (s.s3.toNat : Int), .int .u8 (s.s4.toNat : Int), .int .u8 (s.s5.toNat : Int), .int .u8 (s.s6.toNat : Int), .int .u8 (s.s7.toNat : Int)] (n := w.heap.size + 1) (by simp)
  clear hc2
  go_enter Try.func13, Try.ntmps13
  go_wp2_with fail
  refine (kb_good l s (c + 1) _ (by omega) K hK (by omega) (by omega) (by omega) _).mono ?_
  rintro e w1 ⟨rfl, hb1⟩
  have ht1 := (ht0.below hb1 (by simp)).alloc (.cells #[.int .u32 (W K.k0), .int .u32 (W K.k1), .int .u32 (W K.k2), .int .u32 (W K.k3), .int .u32 (W K.k4), .int .u32 (W K.k5), .int .u32 (W K.k6), .int .u32 (W K.k7)] 28)
  have hk1 := Holds.newAt w1 28 [.int .u32 (W K.k0), .int .u32 (W K.k1), .int .u32 (W K.k2), .int .u32 (W K.k3), .int .u32 (W K.k4), .int .u32 (W K.k5), .int .u32 (W K.k6), .int .u32 (W K.k7)] (n := w1.heap.size) rfl
  have hbw1 := (hb0.trans (hb1.mono (by simp; omega))).alloc (by have := hb1.size; simp at this; omega) (.cells #[.int .u32 (W K.k0), .int .u32 (W K.k1), .int .u32 (W K.k2), .int .u32 (W K.k3), .int .u32 (W K.k4), .int .u32 (W K.k5), .int .u32 (W K.k6), .int .u32 (W K.k7)] 28)
  have t8 := ht1.eight
  clear hs0 ht0 hb0 hb1
  go_wp2_with fail
  refine (kb_good l ⟨s.s0, s.s1, s.s2 ^^^ t, s.s3, s.s4, s.s5, s.s6, s.s7⟩ (c + 1) _ (by omega) M hM (by omega) (by omega) (by omega) _).mono ?_
  rintro e w2 ⟨rfl, hb2⟩
  have hk2 := (hk1.below hb2 hk1.lt).alloc (.cells #[.int .u32 (W M.k0), .int .u32 (W M.k1), .int .u32 (W M.k2), .int .u32 (W M.k3), .int .u32 (W M.k4), .int .u32 (W M.k5), .int .u32 (W M.k6), .int .u32 (W M.k7)] 28)
  have hm2 := Holds.newAt w2 28 [.int .u32 (W M.k0), .int .u32 (W M.k1), .int .u32 (W M.k2), .int .u32 (W M.k3), .int .u32 (W M.k4), .int .u32 (W M.k5), .int .u32 (W M.k6), .int .u32 (W M.k7)] (n := w2.heap.size) rfl
  have hbw2 := (hbw1.trans (hb2.mono hbw1.size)).alloc (by have := hbw1.size; have := hb2.size; omega) (.cells #[.int .u32 (W M.k0), .int .u32 (W M.k1), .int .u32 (W M.k2), .int .u32 (W M.k3), .int .u32 (W M.k4), .int .u32 (W M.k5), .int .u32 (W M.k6), .int .u32 (W M.k7)] 28)
  clear t8 ht1 hk1 hbw1 hb2
  go_wp2_with fail
  refine (told16 _).mono ?_
  rintro e w4 ⟨rfl, hb4⟩
  have k8 := (hk2.below hb4 hk2.lt).eight
  have m8 := (hm2.below hb4 hm2.lt).eight
  have hfin := hbw2.trans (hb4.mono hbw2.size)
  clear hk2 hm2 hbw2 hb4
  go_wp2_with fail
  go_ret
  exact ⟨ret_boolB (by simp), hfin⟩
set_option maxRecDepth 20000 in
set_option maxHeartbeats 8000000 in
theorem ks_3z (l : List UInt8) (s : S8) (p : Int) (t : UInt8) (n : Int) (w : World) (h4 : (IntKind.u64.wrap p).tmod 8 = 3) (h100 : ¬ 100 < l.length) (ht : t = 0) :
    Calls Try.prog 13 #[.string (mkStr l), .agg #[.int .u8 (s.s0.toNat : Int), .int .u8 (s.s1.toNat : Int), .int .u8 (s.s2.toNat : Int), .int .u8 (s.s3.toNat : Int), .int .u8 (s.s4.toNat : Int), .int .u8 (s.s5.toNat : Int), .int .u8 (s.s6.toNat : Int), .int .u8 (s.s7.toNat : Int)], .int .i64 p, .int .u8 (t.toNat : Int), .int .i64 n] w fun e w' => e = .returned (.bool true) ∧ Below w.heap.size w w' := by
  have hsz : (mkStr l).size = l.length := mkStr_size l
  have hb0 : Below w.heap.size w ((w.alloc (.cells #[.int .u8 (s.s0.toNat : Int), .int .u8 (s.s1.toNat : Int), .int .u8 (s.s2.toNat : Int), .int .u8 (s.s3.toNat : Int), .int .u8 (s.s4.toNat : Int), .int .u8 (s.s5.toNat : Int), .int .u8 (s.s6.toNat : Int), .int .u8 (s.s7.toNat : Int)] 26)).alloc (.cells #[.int .u8 (s.s0.toNat : Int), .int .u8 (s.s1.toNat : Int), .int .u8 (s.s2.toNat : Int), .int .u8 (s.s3.toNat : Int), .int .u8 (s.s4.toNat : Int), .int .u8 (s.s5.toNat : Int), .int .u8 (s.s6.toNat : Int), .int .u8 (s.s7.toNat : Int)] 26)) := ((Below.refl _ _).alloc (Nat.le_refl _) _).alloc (by simp) _
  obtain ⟨c, hc, hc2⟩ := utmod n 10 (by omega)
  have hc2' : (IntKind.u64.wrap n).tmod 10 = (c : Int) := hc2
  have hc3 := wrap64_small c (by omega)
  obtain ⟨K, hK⟩ : ∃ K, Hid (K = keyL l s (c + 1)) := ⟨_, rfl⟩
  subst ht
  have hx0 : bits .xor .u8 (s.s3.toNat : Int) 0 = (s.s3.toNat : Int) := by have h := bits_xor_B s.s3 0; simpa using h
  have hs0 := (Holds.newAt w 26 [.int .u8 (s.s0.toNat : Int), .int .u8 (s.s1.toNat : Int), .int .u8 (s.s2.toNat : Int), .int .u8 (s.s3.toNat : Int), .int .u8 (s.s4.toNat : Int), .int .u8 (s.s5.toNat : Int), .int .u8 (s.s6.toNat : Int), .int .u8 (s.s7.toNat : Int)] (n := w.heap.size) rfl).alloc (.cells #[.int .u8 (s.s0.toNat : Int), .int .u8 (s.s1.toNat : Int), .int .u8 (s.s2.toNat : Int), .int .u8 (s.s3.toNat : Int), .int .u8 (s.s4.toNat : Int), .int .u8 (s.s5.toNat : Int), .int .u8 (s.s6.toNat : Int), .int .u8 (s.s7.toNat : Int)] 26)
  have ht0 := Holds.newAt (w.alloc (.cells #[.int .u8 (s.s0.toNat : Int), .int .u8 (s.s1.toNat : Int), .int .u8 (s.s2.toNat : Int), .int .u8 (s.s3.toNat : Int), .int .u8 (s.s4.toNat : Int), .int .u8 (s.s5.toNat : Int), .int .u8 (s.s6.toNat : Int), .int .u8 (s.s7.toNat : Int)] 26)) 26 [.int .u8 (s.s0.toNat : Int), .int .u8 (s.s1.toNat : Int), .int .u8 (s.s2.toNat : Int), .int .u8 (s.s3.toNat : Int), .int .u8 (s.s4.toNat : Int), .int .u8 (s.s5.toNat : Int), .int .u8 (s.s6.toNat : Int), .int .u8 (s.s7.toNat : Int)] (n := w.heap.size + 1) (by simp)
  clear hc2
  go_enter Try.func13, Try.ntmps13
  go_wp2_with fail
  refine (kb_good l s (c + 1) _ (by omega) K hK (by omega) (by omega) (by omega) _).mono ?_
  rintro e w1 ⟨rfl, hb1⟩
  have ht1 := (ht0.below hb1 (by simp)).alloc (.cells #[.int .u32 (W K.k0), .int .u32 (W K.k1), .int .u32 (W K.k2), .int .u32 (W K.k3), .int .u32 (W K.k4), .int .u32 (W K.k5), .int .u32 (W K.k6), .int .u32 (W K.k7)] 28)
  have hk1 := Holds.newAt w1 28 [.int .u32 (W K.k0), .int .u32 (W K.k1), .int .u32 (W K.k2), .int .u32 (W K.k3), .int .u32 (W K.k4), .int .u32 (W K.k5), .int .u32 (W K.k6), .int .u32 (W K.k7)] (n := w1.heap.size) rfl
  have hbw1 := (hb0.trans (hb1.mono (by simp; omega))).alloc (by have := hb1.size; simp at this; omega) (.cells #[.int .u32 (W K.k0), .int .u32 (W K.k1), .int .u32 (W K.k2), .int .u32 (W K.k3), .int .u32 (W K.k4), .int .u32 (W K.k5), .int .u32 (W K.k6), .int .u32 (W K.k7)] 28)
  have t8 := ht1.eight
  clear hs0 ht0 hb0 hb1
  go_wp2_with fail
  refine (kb_good l s (c + 1) _ (by omega) K hK (by omega) (by omega) (by omega) _).mono ?_
  rintro e w2 ⟨rfl, hb2⟩
  have hk2 := (hk1.below hb2 hk1.lt).alloc (.cells #[.int .u32 (W K.k0), .int .u32 (W K.k1), .int .u32 (W K.k2), .int .u32 (W K.k3), .int .u32 (W K.k4), .int .u32 (W K.k5), .int .u32 (W K.k6), .int .u32 (W K.k7)] 28)
  have hm2 := Holds.newAt w2 28 [.int .u32 (W K.k0), .int .u32 (W K.k1), .int .u32 (W K.k2), .int .u32 (W K.k3), .int .u32 (W K.k4), .int .u32 (W K.k5), .int .u32 (W K.k6), .int .u32 (W K.k7)] (n := w2.heap.size) rfl
  have hbw2 := (hbw1.trans (hb2.mono hbw1.size)).alloc (by have := hbw1.size; have := hb2.size; omega) (.cells #[.int .u32 (W K.k0), .int .u32 (W K.k1), .int .u32 (W K.k2), .int .u32 (W K.k3), .int .u32 (W K.k4), .int .u32 (W K.k5), .int .u32 (W K.k6), .int .u32 (W K.k7)] 28)
  clear t8 ht1 hk1 hbw1 hb2
  go_wp2_with fail
  refine (told16 _).mono ?_
  rintro e w4 ⟨rfl, hb4⟩
  have k8 := (hk2.below hb4 hk2.lt).eight
  have m8 := (hm2.below hb4 hm2.lt).eight
  have hfin := hbw2.trans (hb4.mono hbw2.size)
  clear hk2 hm2 hbw2 hb4
  go_wp2_with fail
  go_ret
  exact ⟨ret_boolB (by simp), hfin⟩
set_option maxRecDepth 20000 in
set_option maxHeartbeats 8000000 in
theorem ks_3n (l : List UInt8) (s : S8) (p : Int) (t : UInt8) (n : Int) (w : World) (h4 : (IntKind.u64.wrap p).tmod 8 = 3) (h100 : ¬ 100 < l.length) (ht : t ≠ 0) :
    Calls Try.prog 13 #[.string (mkStr l), .agg #[.int .u8 (s.s0.toNat : Int), .int .u8 (s.s1.toNat : Int), .int .u8 (s.s2.toNat : Int), .int .u8 (s.s3.toNat : Int), .int .u8 (s.s4.toNat : Int), .int .u8 (s.s5.toNat : Int), .int .u8 (s.s6.toNat : Int), .int .u8 (s.s7.toNat : Int)], .int .i64 p, .int .u8 (t.toNat : Int), .int .i64 n] w fun e w' => e = .returned (.bool true) ∧ Below w.heap.size w w' := by
  have hsz : (mkStr l).size = l.length := mkStr_size l
  have hb0 : Below w.heap.size w ((w.alloc (.cells #[.int .u8 (s.s0.toNat : Int), .int .u8 (s.s1.toNat : Int), .int .u8 (s.s2.toNat : Int), .int .u8 (s.s3.toNat : Int), .int .u8 (s.s4.toNat : Int), .int .u8 (s.s5.toNat : Int), .int .u8 (s.s6.toNat : Int), .int .u8 (s.s7.toNat : Int)] 26)).alloc (.cells #[.int .u8 (s.s0.toNat : Int), .int .u8 (s.s1.toNat : Int), .int .u8 (s.s2.toNat : Int), .int .u8 ((s.s3 ^^^ t).toNat : Int), .int .u8 (s.s4.toNat : Int), .int .u8 (s.s5.toNat : Int), .int .u8 (s.s6.toNat : Int), .int .u8 (s.s7.toNat : Int)] 26)) := ((Below.refl _ _).alloc (Nat.le_refl _) _).alloc (by simp) _
  obtain ⟨c, hc, hc2⟩ := utmod n 10 (by omega)
  have hc2' : (IntKind.u64.wrap n).tmod 10 = (c : Int) := hc2
  have hc3 := wrap64_small c (by omega)
  obtain ⟨K, hK⟩ : ∃ K, Hid (K = keyL l s (c + 1)) := ⟨_, rfl⟩
  obtain ⟨M, hM⟩ : ∃ M, Hid (M = keyL l ⟨s.s0, s.s1, s.s2, s.s3 ^^^ t, s.s4, s.s5, s.s6, s.s7⟩ (c + 1)) := ⟨_, rfl⟩
  have hdif := kb_Ne (A := K) (B := M) (fun e => ht (by
    rw [hK.out, hM.out] at e
    have e2 := congrArg S8.s3 (keyL_inj l _ _ _ e)
    exact (xor_self_iff s.s3 t).1 e2))
  have hbt : ((t.toNat : Int) == 0) = false := B_beq0 t false (by simp [ht])
  have hs0 := (Holds.newAt w 26 [.int .u8 (s.s0.toNat : Int), .int .u8 (s.s1.toNat : Int), .int .u8 (s.s2.toNat : Int), .int .u8 (s.s3.toNat : Int), .int .u8 (s.s4.toNat : Int), .int .u8 (s.s5.toNat : Int), .int .u8 (s.s6.toNat : Int), .int .u8 (s.s7.toNat : Int)] (n := w.heap.size) rfl).alloc (.cells #[.int .u8 (s.s0.toNat : Int), .int .u8 (s.s1.toNat : Int), .int .u8 (s.s2.toNat : Int), .int .u8 ((s.s3 ^^^ t).toNat : Int), .int .u8 (s.s4.toNat : Int), .int .u8 (s.s5.toNat : Int), .int .u8 (s.s6.toNat : Int), .int .u8 (s.s7.toNat : Int)] 26)
  have ht0 := Holds.newAt (w.alloc (.cells #[.int .u8 (s.s0.toNat : Int), .int .u8 (s.s1.toNat : Int), .int .u8 (s.s2.toNat : Int), .int .u8 (s.s3.toNat : Int), .int .u8 (s.s4.toNat : Int), .int .u8 (s.s5.toNat : Int), .int .u8 (s.s6.toNat : Int), .int .u8 (s.s7.toNat : Int)] 26)) 26 [.int .u8 (s.s0.toNat : Int), .int .u8 (s.s1.toNat : Int), .int .u8 (s.s2.toNat : Int), .int .u8 ((s.s3 ^^^ t).toNat : Int), .int .u8 (s.s4.toNat : Int), .int .u8 (s.s5.toNat : Int), .int .u8 (s.s6.toNat : Int), .int .u8 (s.s7.toNat : Int)] (n := w.heap.size + 1) (by simp)
  clear hc2
  go_enter Try.func13, Try.ntmps13
  go_wp2_with fail
  refine (kb_good l s (c + 1) _ (by omega) K hK (by omega) (by omega) (by omega) _).mono ?_
  rintro e w1 ⟨rfl, hb1⟩
  have ht1 := (ht0.below hb1 (by simp)).alloc (.cells #[.int .u32 (W K.k0), .int .u32 (W K.k1), .int .u32 (W K.k2), .int .u32 (W K.k3), .int .u32 (W K.k4), .int .u32 (W K.k5), .int .u32 (W K.k6), .int .u32 (W K.k7)] 28)
  have hk1 := Holds.newAt w1 28 [.int .u32 (W K.k0), .int .u32 (W K.k1), .int .u32 (W K.k2), .int .u32 (W K.k3), .int .u32 (W K.k4), .int .u32 (W K.k5), .int .u32 (W K.k6), .int .u32 (W K.k7)] (n := w1.heap.size) rfl
  have hbw1 := (hb0.trans (hb1.mono (by simp; omega))).alloc (by have := hb1.size; simp at this; omega) (.cells #[.int .u32 (W K.k0), .int .u32 (W K.k1), .int .u32 (W K.k2), .int .u32 (W K.k3), .int .u32 (W K.k4), .int .u32 (W K.k5), .int .u32 (W K.k6), .int .u32 (W K.k7)] 28)
  have t8 := ht1.eight
  clear hs0 ht0 hb0 hb1
  go_wp2_with fail
  refine (kb_good l ⟨s.s0, s.s1, s.s2, s.s3 ^^^ t, s.s4, s.s5, s.s6, s.s7⟩ (c + 1) _ (by omega) M hM (by omega) (by omega) (by omega) _).mono ?_
  rintro e w2 ⟨rfl, hb2⟩
  have hk2 := (hk1.below hb2 hk1.lt).alloc (.cells #[.int .u32 (W M.k0), .int .u32 (W M.k1), .int .u32 (W M.k2), .int .u32 (W M.k3), .int .u32 (W M.k4), .int .u32 (W M.k5), .int .u32 (W M.k6), .int .u32 (W M.k7)] 28)
  have hm2 := Holds.newAt w2 28 [.int .u32 (W M.k0), .int .u32 (W M.k1), .int .u32 (W M.k2), .int .u32 (W M.k3), .int .u32 (W M.k4), .int .u32 (W M.k5), .int .u32 (W M.k6), .int .u32 (W M.k7)] (n := w2.heap.size) rfl
  have hbw2 := (hbw1.trans (hb2.mono hbw1.size)).alloc (by have := hbw1.size; have := hb2.size; omega) (.cells #[.int .u32 (W M.k0), .int .u32 (W M.k1), .int .u32 (W M.k2), .int .u32 (W M.k3), .int .u32 (W M.k4), .int .u32 (W M.k5), .int .u32 (W M.k6), .int .u32 (W M.k7)] 28)
  clear t8 ht1 hk1 hbw1 hb2
  go_wp2_with fail
  refine (told16 _).mono ?_
  rintro e w4 ⟨rfl, hb4⟩
  have k8 := (hk2.below hb4 hk2.lt).eight
  have m8 := (hm2.below hb4 hm2.lt).eight
  have hfin := hbw2.trans (hb4.mono hbw2.size)
  clear hk2 hm2 hbw2 hb4
  go_wp2_with fail
  go_ret
  exact ⟨ret_boolB (by simp), hfin⟩
set_option maxRecDepth 20000 in
set_option maxHeartbeats 8000000 in
theorem ks_4z (l : List UInt8) (s : S8) (p : Int) (t : UInt8) (n : Int) (w : World) (h4 : (IntKind.u64.wrap p).tmod 8 = 4) (h100 : ¬ 100 < l.length) (ht : t = 0) :
    Calls Try.prog 13 #[.string (mkStr l), .agg #[.int .u8 (s.s0.toNat : Int), .int .u8 (s.s1.toNat : Int), .int .u8 (s.s2.toNat : Int), .int .u8 (s.s3.toNat : Int), .int .u8 (s.s4.toNat : Int), .int .u8 (s.s5.toNat : Int), .int .u8 (s.s6.toNat : Int), .int .u8 (s.s7.toNat : Int)], .int .i64 p, .int .u8 (t.toNat : Int), .int .i64 n] w fun e w' => e = .returned (.bool true) ∧ Below w.heap.size w w' := by
  have hsz : (mkStr l).size = l.length := mkStr_size l
  have hb0 : Below w.heap.size w ((w.alloc (.cells #[.int .u8 (s.s0.toNat : Int), .int .u8 (s.s1.toNat : Int), .int .u8 (s.s2.toNat : Int), .int .u8 (s.s3.toNat : Int), .int .u8 (s.s4.toNat : Int), .int .u8 (s.s5.toNat : Int), .int .u8 (s.s6.toNat : Int), .int .u8 (s.s7.toNat : Int)] 26)).alloc (.cells #[.int .u8 (s.s0.toNat : Int), .int .u8 (s.s1.toNat : Int), .int .u8 (s.s2.toNat : Int), .int .u8 (s.s3.toNat : Int), .int .u8 (s.s4.toNat : Int), .int .u8 (s.s5.toNat : Int), .int .u8 (s.s6.toNat : Int), .int .u8 (s.s7.toNat : Int)] 26)) := ((Below.refl _ _).alloc (Nat.le_refl _) _).alloc (by simp) _
  obtain ⟨c, hc, hc2⟩ := utmod n 10 (by omega)
  have hc2' : (IntKind.u64.wrap n).tmod 10 = (c : Int) := hc2
  have hc3 := wrap64_small c (by omega)
  obtain ⟨K, hK⟩ : ∃ K, Hid (K = keyL l s (c + 1)) := ⟨_, rfl⟩
  subst ht
  have hx0 : bits .xor .u8 (s.s4.toNat : Int) 0 = (s.s4.toNat : Int) := by have h := bits_xor_B s.s4 0; simpa using h
  have hs0 := (Holds.newAt w 26 [.int .u8 (s.s0.toNat : Int), .int .u8 (s.s1.toNat : Int), .int .u8 (s.s2.toNat : Int), .int .u8 (s.s3.toNat : Int), .int .u8 (s.s4.toNat : Int), .int .u8 (s.s5.toNat : Int), .int .u8 (s.s6.toNat : Int), .int .u8 (s.s7.toNat : Int)] (n := w.heap.size) rfl).alloc (.cells #[.int .u8 (s.s0.toNat : Int), .int .u8 (s.s1.toNat : Int), .int .u8 (s.s2.toNat : Int), .int .u8 (s.s3.toNat : Int), .int .u8 (s.s4.toNat : Int), .int .u8 (s.s5.toNat : Int), .int .u8 (s.s6.toNat : Int), .int .u8 (s.s7.toNat : Int)] 26)
  have ht0 := Holds.newAt (w.alloc (.cells #[.int .u8 (s.s0.toNat : Int), .int .u8 (s.s1.toNat : Int), .int .u8 (s.s2.toNat : Int), .int .u8 (s.s3.toNat : Int), .int .u8 (s.s4.toNat : Int), .int .u8 (s.s5.toNat : Int), .int .u8 (s.s6.toNat : Int), .int .u8 (s.s7.toNat : Int)] 26)) 26 [.int .u8 (s.s0.toNat : Int), .int .u8 (s.s1.toNat : Int), .int .u8 (s.s2.toNat : Int), .int .u8 (s.s3.toNat : Int), .int .u8 (s.s4.toNat : Int), .int .u8 (s.s5.toNat : Int), .int .u8 (s.s6.toNat : Int), .int .u8 (s.s7.toNat : Int)] (n := w.heap.size + 1) (by simp)
  clear hc2
  go_enter Try.func13, Try.ntmps13
  go_wp2_with fail
  refine (kb_good l s (c + 1) _ (by omega) K hK (by omega) (by omega) (by omega) _).mono ?_
  rintro e w1 ⟨rfl, hb1⟩
  have ht1 := (ht0.below hb1 (by simp)).alloc (.cells #[.int .u32 (W K.k0), .int .u32 (W K.k1), .int .u32 (W K.k2), .int .u32 (W K.k3), .int .u32 (W K.k4), .int .u32 (W K.k5), .int .u32 (W K.k6), .int .u32 (W K.k7)] 28)
  have hk1 := Holds.newAt w1 28 [.int .u32 (W K.k0), .int .u32 (W K.k1), .int .u32 (W K.k2), .int .u32 (W K.k3), .int .u32 (W K.k4), .int .u32 (W K.k5), .int .u32 (W K.k6), .int .u32 (W K.k7)] (n := w1.heap.size) rfl
  have hbw1 := (hb0.trans (hb1.mono (by simp; omega))).alloc (by have := hb1.size; simp at this; omega) (.cells #[.int .u32 (W K.k0), .int .u32 (W K.k1), .int .u32 (W K.k2), .int .u32 (W K.k3), .int .u32 (W K.k4), .int .u32 (W K.k5), .int .u32 (W K.k6), .int .u32 (W K.k7)] 28)
  have t8 := ht1.eight
  clear hs0 ht0 hb0 hb1
  go_wp2_with fail
  refine (kb_good l s (c + 1) _ (by omega) K hK (by omega) (by omega) (by omega) _).mono ?_
  rintro e w2 ⟨rfl, hb2⟩
  have hk2 := (hk1.below hb2 hk1.lt).alloc (.cells #[.int .u32 (W K.k0), .int .u32 (W K.k1), .int .u32 (W K.k2), .int .u32 (W K.k3), .int .u32 (W K.k4), .int .u32 (W K.k5), .int .u32 (W K.k6), .int .u32 (W K.k7)] 28)
  have hm2 := Holds.newAt w2 28 [.int .u32 (W K.k0), .int .u32 (W K.k1), .int .u32 (W K.k2), .int .u32 (W K.k3), .int .u32 (W K.k4), .int .u32 (W K.k5), .int .u32 (W K.k6), .int .u32 (W K.k7)] (n := w2.heap.size) rfl
  have hbw2 := (hbw1.trans (hb2.mono hbw1.size)).alloc (by have := hbw1.size; have := hb2.size; omega) (.cells #[.int .u32 (W K.k0), .int .u32 (W K.k1), .int .u32 (W K.k2), .int .u32 (W K.k3), .int .u32 (W K.k4), .int .u32 (W K.k5), .int .u32 (W K.k6), .int .u32 (W K.k7)] 28)
  clear t8 ht1 hk1 hbw1 hb2
  go_wp2_with fail
  refine (told16 _).mono ?_
  rintro e w4 ⟨rfl, hb4⟩
  have k8 := (hk2.below hb4 hk2.lt).eight
  have m8 := (hm2.below hb4 hm2.lt).eight
  have hfin := hbw2.trans (hb4.mono hbw2.size)
  clear hk2 hm2 hbw2 hb4
  go_wp2_with fail
  go_ret
  exact ⟨ret_boolB (by simp), hfin⟩
set_option maxRecDepth 20000 in
set_option maxHeartbeats 8000000 in
theorem ks_4n (l : List UInt8) (s : S8) (p : Int) (t : UInt8) (n : Int) (w : World) (h4 : (IntKind.u64.wrap p).tmod 8 = 4) (h100 : ¬ 100 < l.length) (ht : t ≠ 0) :
    Calls Try.prog 13 #[.string (mkStr l), .agg #[.int .u8 (s.s0.toNat : Int), .int .u8 (s.s1.toNat : Int), .int .u8 (s.s2.toNat : Int), .int .u8 (s.s3.toNat : Int), .int .u8 (s.s4.toNat : Int), .int .u8 (s.s5.toNat : Int), .int .u8 (s.s6.toNat : Int), .int .u8 (s.s7.toNat : Int)], .int .i64 p, .int .u8 (t.toNat : Int), .int .i64 n] w fun e w' => e = .returned (.bool true) ∧ Below w.heap.size w w' := by
  have hsz : (mkStr l).size = l.length := mkStr_size l
  have hb0 : Below w.heap.size w ((w.alloc (.cells #[.int .u8 (s.s0.toNat : Int), .int .u8 (s.s1.toNat : Int), .int .u8 (s.s2.toNat : Int), .int .u8 (s.s3.toNat : Int), .int .u8 (s.s4.toNat : Int), .int .u8 (s.s5.toNat : Int), .int .u8 (s.s6.toNat : Int), .int .u8 (s.s7.toNat : Int)] 26)).alloc (.cells #[.int .u8 (s.s0.toNat : Int), .int .u8 (s.s1.toNat : Int), .int .u8 (s.s2.toNat : Int), .int .u8 (s.s3.toNat : Int), .int .u8 ((s.s4 ^^^ t).toNat : Int), .int .u8 (s.s5.toNat : Int), .int .u8 (s.s6.toNat : Int), .int .u8 (s.s7.toNat : Int)] 26)) := ((Below.refl _ _).alloc (Nat.le_refl _) _).alloc (by simp) _
  obtain ⟨c, hc, hc2⟩ := utmod n 10 (by omega)
  have hc2' : (IntKind.u64.wrap n).tmod 10 = (c : Int) := hc2
  have hc3 := wrap64_small c (by omega)
  obtain ⟨K, hK⟩ : ∃ K, Hid (K = keyL l s (c + 1)) := ⟨_, rfl⟩
  obtain ⟨M, hM⟩ : ∃ M, Hid (M = keyL l ⟨s.s0, s.s1, s.s2, s.s3, s.s4 ^^^ t, s.s5, s.s6, s.s7⟩ (c + 1)) := ⟨_, rfl⟩
  have hdif := kb_Ne (A := K) (B := M) (fun e => ht (by
    rw [hK.out, hM.out] at e
    have e2 := congrArg S8.s4 (keyL_inj l _ _ _ e)
    exact (xor_self_iff s.s4 t).1 e2))
  have hbt : ((t.toNat : Int) == 0) = false := B_beq0 t false (by simp [ht])
  have hs0 := (Holds.newAt w 26 [.int .u8 (s.s0.toNat : Int), .int .u8 (s.s1.toNat : Int), .int .u8 (s.s2.toNat : Int), .int .u8 (s.s3.toNat : Int), .int .u8 (s.s4.toNat : Int), .int .u8 (s.s5.toNat : Int), .int .u8 (s.s6.toNat : Int), .int .u8 (s.s7.toNat : Int)] (n := w.heap.size) rfl).alloc (.cells #[.int .u8 (s.s0.toNat : Int), .int .u8 (s.s1.toNat : Int), .int .u8 (s.s2.toNat : Int), .int .u8 (s.s3.toNat : Int), .int .u8 ((s.s4 ^^^ t).toNat : Int), .int .u8 (s.s5.toNat : Int), .int .u8 (s.s6.toNat : Int), .int .u8 (s.s7.toNat : Int)] 26)
  have ht0 := Holds.newAt (w.alloc (.cells #[.int .u8 (s.s0.toNat : Int), .int .u8 (s.s1.toNat : Int), .int .u8 (s.s2.toNat : Int), .int .u8 (s.s3.toNat : Int), .int .u8 (s.s4.toNat : Int), .int .u8 (s.s5.toNat : Int), .int .u8 (s.s6.toNat : Int), .int .u8 (s.s7.toNat : Int)] 26)) 26 [.int .u8 (s.s0.toNat : Int), .int .u8 (s.s1.toNat : Int), .int .u8 (s.s2.toNat : Int), .int .u8 (s.s3.toNat : Int), .int .u8 ((s.s4 ^^^ t).toNat : Int), .int .u8 (s.s5.toNat : Int), .int .u8 (s.s6.toNat : Int), .int .u8 (s.s7.toNat : Int)] (n := w.heap.size + 1) (by simp)
  clear hc2
  go_enter Try.func13, Try.ntmps13
  go_wp2_with fail
  refine (kb_good l s (c + 1) _ (by omega) K hK (by omega) (by omega) (by omega) _).mono ?_
  rintro e w1 ⟨rfl, hb1⟩
  have ht1 := (ht0.below hb1 (by simp)).alloc (.cells #[.int .u32 (W K.k0), .int .u32 (W K.k1), .int .u32 (W K.k2), .int .u32 (W K.k3), .int .u32 (W K.k4), .int .u32 (W K.k5), .int .u32 (W K.k6), .int .u32 (W K.k7)] 28)
  have hk1 := Holds.newAt w1 28 [.int .u32 (W K.k0), .int .u32 (W K.k1), .int .u32 (W K.k2), .int .u32 (W K.k3), .int .u32 (W K.k4), .int .u32 (W K.k5), .int .u32 (W K.k6), .int .u32 (W K.k7)] (n := w1.heap.size) rfl
  have hbw1 := (hb0.trans (hb1.mono (by simp; omega))).alloc (by have := hb1.size; simp at this; omega) (.cells #[.int .u32 (W K.k0), .int .u32 (W K.k1), .int .u32 (W K.k2), .int .u32 (W K.k3), .int .u32 (W K.k4), .int .u32 (W K.k5), .int .u32 (W K.k6), .int .u32 (W K.k7)] 28)
  have t8 := ht1.eight
  clear hs0 ht0 hb0 hb1
  go_wp2_with fail
  refine (kb_good l ⟨s.s0, s.s1, s.s2, s.s3, s.s4 ^^^ t, s.s5, s.s6, s.s7⟩ (c + 1) _ (by omega) M hM (by omega) (by omega) (by omega) _).mono ?_
  rintro e w2 ⟨rfl, hb2⟩
  have hk2 := (hk1.below hb2 hk1.lt).alloc (.cells #[.int .u32 (W M.k0), .int .u32 (W M.k1), .int .u32 (W M.k2), .int .u32 (W M.k3), .int .u32 (W M.k4), .int .u32 (W M.k5), .int .u32 (W M.k6), .int .u32 (W M.k7)] 28)
  have hm2 := Holds.newAt w2 28 [.int .u32 (W M.k0), .int .u32 (W M.k1), .int .u32 (W M.k2), .int .u32 (W M.k3), .int .u32 (W M.k4), .int .u32 (W M.k5), .int .u32 (W M.k6), .int .u32 (W M.k7)] (n := w2.heap.size) rfl
  have hbw2 := (hbw1.trans (hb2.mono hbw1.size)).alloc (by have := hbw1.size; have := hb2.size; omega) (.cells #[.int .u32 (W M.k0), .int .u32 (W M.k1), .int .u32 (W M.k2), .int .u32 (W M.k3), .int .u32 (W M.k4), .int .u32 (W M.k5), .int .u32 (W M.k6), .int .u32 (W M.k7)] 28)
  clear t8 ht1 hk1 hbw1 hb2
  go_wp2_with fail
  refine (told16 _).mono ?_
  rintro e w4 ⟨rfl, hb4⟩
  have k8 := (hk2.below hb4 hk2.lt).eight
  have m8 := (hm2.below hb4 hm2.lt).eight
  have hfin := hbw2.trans (hb4.mono hbw2.size)
  clear hk2 hm2 hbw2 hb4
  go_wp2_with fail
  go_ret
  exact ⟨ret_boolB (by simp), hfin⟩
set_option maxRecDepth 20000 in
set_option maxHeartbeats 8000000 in
theorem ks_5z (l : List UInt8) (s : S8) (p : Int) (t : UInt8) (n : Int) (w : World) (h4 : (IntKind.u64.wrap p).tmod 8 = 5) (h100 : ¬ 100 < l.length) (ht : t = 0) :
    Calls Try.prog 13 #[.string (mkStr l), .agg #[.int .u8 (s.s0.toNat : Int), .int .u8 (s.s1.toNat : Int), .int .u8 (s.s2.toNat : Int), .int .u8 (s.s3.toNat : Int), .int .u8 (s.s4.toNat : Int), .int .u8 (s.s5.toNat : Int), .int .u8 (s.s6.toNat : Int), .int .u8 (s.s7.toNat : Int)], .int .i64 p, .int .u8 (t.toNat : Int), .int .i64 n] w fun e w' => e = .returned (.bool true) ∧ Below w.heap.size w w' := by
  have hsz : (mkStr l).size = l.length := mkStr_size l
  have hb0 : Below w.heap.size w ((w.alloc (.cells #[.int .u8 (s.s0.toNat : Int), .int .u8 (s.s1.toNat : Int), .int .u8 (s.s2.toNat : Int), .int .u8 (s.s3.toNat : Int), .int .u8 (s.s4.toNat : Int), .int .u8 (s.s5.toNat : Int), .int .u8 (s.s6.toNat : Int), .int .u8 (s.s7.toNat : Int)] 26)).alloc (.cells #[.int .u8 (s.s0.toNat : Int), .int .u8 (s.s1.toNat : Int), .int .u8 (s.s2.toNat : Int), .int .u8 (s.s3.toNat : Int), .int .u8 (s.s4.toNat : Int), .int .u8 (s.s5.toNat : Int), .int .u8 (s.s6.toNat : Int), .int .u8 (s.s7.toNat : Int)] 26)) := ((Below.refl _ _).alloc (Nat.le_refl _) _).alloc (by simp) _
  obtain ⟨c, hc, hc2⟩ := utmod n 10 (by omega)
  have hc2' : (IntKind.u64.wrap n).tmod 10 = (c : Int) := hc2
  have hc3 := wrap64_small c (by omega)
  obtain ⟨K, hK⟩ : ∃ K, Hid (K = keyL l s (c + 1)) := ⟨_, rfl⟩
  subst ht
  have hx0 : bits .xor .u8 (s.s5.toNat : Int) 0 = (s.s5.toNat : Int) := by have h := bits_xor_B s.s5 0; simpa using h
  have hs0 := (Holds.newAt w 26 [.int .u8 (s.s0.toNat : Int), .int .u8 (s.s1.toNat : Int), .int .u8 (s.s2.toNat : Int), .int .u8 (s.s3.toNat : Int), .int .u8 (s.s4.toNat : Int), .int .u8 (s.s5.toNat : Int), .int .u8 (s.s6.toNat : Int), .int .u8 (s.s7.toNat : Int)] (n := w.heap.size) rfl).alloc (.cells #[.int .u8 (s.s0.toNat : Int), .int .u8 (s.s1.toNat : Int), .int .u8 (s.s2.toNat : Int), .int .u8 (s.s3.toNat : Int), .int .u8 (s.s4.toNat : Int), .int .u8 (s.s5.toNat : Int), .int .u8 (s.s6.toNat : Int), .int .u8 (s.s7.toNat : Int)] 26)
  have ht0 := Holds.newAt (w.alloc (.cells #[.int .u8 (s.s0.toNat : Int), .int .u8 (s.s1.toNat : Int), .int .u8 (s.s2.toNat : Int), .int .u8 (s.s3.toNat : Int), .int .u8 (s.s4.toNat : Int), .int .u8 (s.s5.toNat : Int), .int .u8 (s.s6.toNat : Int), .int .u8 (s.s7.toNat : Int)] 26)) 26 [.int .u8 (s.s0.toNat : Int), .int .u8 (s.s1.toNat : Int), .int .u8 (s.s2.toNat : Int), .int .u8 (s.s3.toNat : Int), .int .u8 (s.s4.toNat : Int), .int .u8 (s.s5.toNat : Int), .int .u8 (s.s6.toNat : Int), .int .u8 (s.s7.toNat : Int)] (n := w.heap.size + 1) (by simp)
  clear hc2
  go_enter Try.func13, Try.ntmps13
  go_wp2_with fail
  refine (kb_good l s (c + 1) _ (by omega) K hK (by omega) (by omega) (by omega) _).mono ?_
  rintro e w1 ⟨rfl, hb1⟩
  have ht1 := (ht0.below hb1 (by simp)).alloc (.cells #[.int .u32 (W K.k0), .int .u32 (W K.k1), .int .u32 (W K.k2), .int .u32 (W K.k3), .int .u32 (W K.k4), .int .u32 (W K.k5), .int .u32 (W K.k6), .int .u32 (W K.k7)] 28)
  have hk1 := Holds.newAt w1 28 [.int .u32 (W K.k0), .int .u32 (W K.k1), .int .u32 (W K.k2), .int .u32 (W K.k3), .int .u32 (W K.k4), .int .u32 (W K.k5), .int .u32 (W K.k6), .int .u32 (W K.k7)] (n := w1.heap.size) rfl
  have hbw1 := (hb0.trans (hb1.mono (by simp; omega))).alloc (by have := hb1.size; simp at this; omega) (.cells #[.int .u32 (W K.k0), .int .u32 (W K.k1), .int .u32 (W K.k2), .int .u32 (W K.k3), .int .u32 (W K.k4), .int .u32 (W K.k5), .int .u32 (W K.k6), .int .u32 (W K.k7)] 28)
  have t8 := ht1.eight
  clear hs0 ht0 hb0 hb1
  go_wp2_with fail
  refine (kb_good l s (c + 1) _ (by omega) K hK (by omega) (by omega) (by omega) _).mono ?_
  rintro e w2 ⟨rfl, hb2⟩
  have hk2 := (hk1.below hb2 hk1.lt).alloc (.cells #[.int .u32 (W K.k0), .int .u32 (W K.k1), .int .u32 (W K.k2), .int .u32 (W K.k3), .int .u32 (W K.k4), .int .u32 (W K.k5), .int .u32 (W K.k6), .int .u32 (W K.k7)] 28)
  have hm2 := Holds.newAt w2 28 [.int .u32 (W K.k0), .int .u32 (W K.k1), .int .u32 (W K.k2), .int .u32 (W K.k3), .int .u32 (W K.k4), .int .u32 (W K.k5), .int .u32 (W K.k6), .int .u32 (W K.k7)] (n := w2.heap.size) rfl
  have hbw2 := (hbw1.trans (hb2.mono hbw1.size)).alloc (by have := hbw1.size; have := hb2.size; omega) (.cells #[.int .u32 (W K.k0), .int .u32 (W K.k1), .int .u32 (W K.k2), .int .u32 (W K.k3), .int .u32 (W K.k4), .int .u32 (W K.k5), .int .u32 (W K.k6), .int .u32 (W K.k7)] 28)
  clear t8 ht1 hk1 hbw1 hb2
  go_wp2_with fail
  refine (told16 _).mono ?_
  rintro e w4 ⟨rfl, hb4⟩
  have k8 := (hk2.below hb4 hk2.lt).eight
  have m8 := (hm2.below hb4 hm2.lt).eight
  have hfin := hbw2.trans (hb4.mono hbw2.size)
  clear hk2 hm2 hbw2 hb4
  go_wp2_with fail
  go_ret
  exact ⟨ret_boolB (by simp), hfin⟩
set_option maxRecDepth 20000 in
set_option maxHeartbeats 8000000 in
theorem ks_5n (l : List UInt8) (s : S8) (p : Int) (t : UInt8) (n : Int) (w : World) (h4 : (IntKind.u64.wrap p).tmod 8 = 5) (h100 : ¬ 100 < l.length) (ht : t ≠ 0) :
    Calls Try.prog 13 #[.string (mkStr l), .agg #[.int .u8 (s.s0.toNat : Int), .int .u8 (s.s1.toNat : Int), .int .u8 (s.s2.toNat : Int), .int .u8 (s.s3.toNat : Int), .int .u8 (s.s4.toNat : Int), .int .u8 (s.s5.toNat : Int), .int .u8 (s.s6.toNat : Int), .int .u8 (s.s7.toNat : Int)], .int .i64 p, .int .u8 (t.toNat : Int), .int .i64 n] w fun e w' => e = .returned (.bool true) ∧ Below w.heap.size w w' := by
  have hsz : (mkStr l).size = l.length := mkStr_size l
  have hb0 : Below w.heap.size w ((w.alloc (.cells #[.int .u8 (s.s0.toNat : Int), .int .u8 (s.s1.toNat : Int), .int .u8 (s.s2.toNat : Int), .int .u8 (s.s3.toNat : Int), .int .u8 (s.s4.toNat : Int), .int .u8 (s.s5.toNat : Int), .int .u8 (s.s6.toNat : Int), .int .u8 (s.s7.toNat : Int)] 26)).alloc (.cells #[.int .u8 (s.s0.toNat : Int), .int .u8 (s.s1.toNat : Int), .int .u8 (s.s2.toNat : Int), .int .u8 (s.s3.toNat : Int), .int .u8 (s.s4.toNat : Int), .int .u8 ((s.s5 ^^^ t).toNat : Int), .int .u8 (s.s6.toNat : Int), .int .u8 (s.s7.toNat : Int)] 26)) := ((Below.refl _ _).alloc (Nat.le_refl _) _).alloc (by simp) _
  obtain ⟨c, hc, hc2⟩ := utmod n 10 (by omega)
  have hc2' : (IntKind.u64.wrap n).tmod 10 = (c : Int) := hc2
  have hc3 := wrap64_small c (by omega)
  obtain ⟨K, hK⟩ : ∃ K, Hid (K = keyL l s (c + 1)) := ⟨_, rfl⟩
  obtain ⟨M, hM⟩ : ∃ M, Hid (M = keyL l ⟨s.s0, s.s1, s.s2, s.s3, s.s4, s.s5 ^^^ t, s.s6, s.s7⟩ (c + 1)) := ⟨_, rfl⟩
  have hdif := kb_Ne (A := K) (B := M) (fun e => ht (by
    rw [hK.out, hM.out] at e
    have e2 := congrArg S8.s5 (keyL_inj l _ _ _ e)
    exact (xor_self_iff s.s5 t).1 e2))
  have hbt : ((t.toNat : Int) == 0) = false := B_beq0 t false (by simp [ht])
  have hs0 := (Holds.newAt w 26 [.int .u8 (s.s0.toNat : Int), .int .u8 (s.s1.toNat : Int), .int .u8 (s.s2.toNat : Int), .int .u8 (s.s3.toNat : Int), .int .u8 (s.s4.toNat : Int), .int .u8 (s.s5.toNat : Int), .int .u8 (s.s6.toNat : Int), .int .u8 (s.s7.toNat : Int)] (n := w.heap.size) rfl).alloc (.cells #[.int .u8 (s.s0.toNat : Int), .int .u8 (s.s1.toNat : Int), .int .u8 (s.s2.toNat : Int), .int .u8 (s.s3.toNat : Int), .int .u8 (s.s4.toNat : Int), .int .u8 ((s.s5 ^^^ t).toNat : Int), .int .u8 (s.s6.toNat : Int), .int .u8 (s.s7.toNat : Int)] 26)
  have ht0 := Holds.newAt (w.alloc (.cells #[.int .u8 (s.s0.toNat : Int), .int .u8 (s.s1.toNat : Int), .int .u8 (s.s2.toNat : Int), .int .u8 (s.s3.toNat : Int), .int .u8 (s.s4.toNat : Int), .int .u8 (s.s5.toNat : Int), .int .u8 (s.s6.toNat : Int), .int .u8 (s.s7.toNat : Int)] 26)) 26 [.int .u8 (s.s0.toNat : Int), .int .u8 (s.s1.toNat : Int), .int .u8 (s.s2.toNat : Int), .int .u8 (s.s3.toNat : Int), .int .u8 (s.s4.toNat : Int), .int .u8 ((s.s5 ^^^ t).toNat : Int), .int .u8 (s.s6.toNat : Int), .int .u8 (s.s7.toNat : Int)] (n := w.heap.size + 1) (by simp)
  clear hc2
  go_enter Try.func13, Try.ntmps13
  go_wp2_with fail
  refine (kb_good l s (c + 1) _ (by omega) K hK (by omega) (by omega) (by omega) _).mono ?_
  rintro e w1 ⟨rfl, hb1⟩
  have ht1 := (ht0.below hb1 (by simp)).alloc (.cells #[.int .u32 (W K.k0), .int .u32 (W K.k1), .int .u32 (W K.k2), .int .u32 (W K.k3), .int .u32 (W K.k4), .int .u32 (W K.k5), .int .u32 (W K.k6), .int .u32 (W K.k7)] 28)
  have hk1 := Holds.newAt w1 28 [.int .u32 (W K.k0), .int .u32 (W K.k1), .int .u32 (W K.k2), .int .u32 (W K.k3), .int .u32 (W K.k4), .int .u32 (W K.k5), .int .u32 (W K.k6), .int .u32 (W K.k7)] (n := w1.heap.size) rfl
  have hbw1 := (hb0.trans (hb1.mono (by simp; omega))).alloc (by have := hb1.size; simp at this; omega) (.cells #[.int .u32 (W K.k0), .int .u32 (W K.k1), .int .u32 (W K.k2), .int .u32 (W K.k3), .int .u32 (W K.k4), .int .u32 (W K.k5), .int .u32 (W K.k6), .int .u32 (W K.k7)] 28)
  have t8 := ht1.eight
  clear hs0 ht0 hb0 hb1
  go_wp2_with fail
  refine (kb_good l ⟨s.s0, s.s1, s.s2, s.s3, s.s4, s.s5 ^^^ t, s.s6, s.s7⟩ (c + 1) _ (by omega) M hM (by omega) (by omega) (by omega) _).mono ?_
  rintro e w2 ⟨rfl, hb2⟩
  have hk2 := (hk1.below hb2 hk1.lt).alloc (.cells #[.int .u32 (W M.k0), .int .u32 (W M.k1), .int .u32 (W M.k2), .int .u32 (W M.k3), .int .u32 (W M.k4), .int .u32 (W M.k5), .int .u32 (W M.k6), .int .u32 (W M.k7)] 28)
  have hm2 := Holds.newAt w2 28 [.int .u32 (W M.k0), .int .u32 (W M.k1), .int .u32 (W M.k2), .int .u32 (W M.k3), .int .u32 (W M.k4), .int .u32 (W M.k5), .int .u32 (W M.k6), .int .u32 (W M.k7)] (n := w2.heap.size) rfl
  have hbw2 := (hbw1.trans (hb2.mono hbw1.size)).alloc (by have := hbw1.size; have := hb2.size; omega) (.cells #[.int .u32 (W M.k0), .int .u32 (W M.k1), .int .u32 (W M.k2), .int .u32 (W M.k3), .int .u32 (W M.k4), .int .u32 (W M.k5), .int .u32 (W M.k6), .int .u32 (W M.k7)] 28)
  clear t8 ht1 hk1 hbw1 hb2
  go_wp2_with fail
  refine (told16 _).mono ?_
  rintro e w4 ⟨rfl, hb4⟩
  have k8 := (hk2.below hb4 hk2.lt).eight
  have m8 := (hm2.below hb4 hm2.lt).eight
  have hfin := hbw2.trans (hb4.mono hbw2.size)
  clear hk2 hm2 hbw2 hb4
  go_wp2_with fail
  go_ret
  exact ⟨ret_boolB (by simp), hfin⟩
set_option maxRecDepth 20000 in
set_option maxHeartbeats 8000000 in
theorem ks_6z (l : List UInt8) (s : S8) (p : Int) (t : UInt8) (n : Int) (w : World) (h4 : (IntKind.u64.wrap p).tmod 8 = 6) (h100 : ¬ 100 < l.length) (ht : t = 0) :
    Calls Try.prog 13 #[.string (mkStr l), .agg #[.int .u8 (s.s0.toNat : Int), .int .u8 (s.s1.toNat : Int), .int .u8 (s.s2.toNat : Int), .int .u8 (s.s3.toNat : Int), .int .u8 (s.s4.toNat : Int), .int .u8 (s.s5.toNat : Int), .int .u8 (s.s6.toNat : Int), .int .u8 (s.s7.toNat : Int)], .int .i64 p, .int .u8 (t.toNat : Int), .int .i64 n] w fun e w' => e = .returned (.bool true) ∧ Below w.heap.size w w' := by
  have hsz : (mkStr l).size = l.length := mkStr_size l
  have hb0 : Below w.heap.size w ((w.alloc (.cells #[.int .u8 (s.s0.toNat : Int), .int .u8 (s.s1.toNat : Int), .int .u8 (s.s2.toNat : Int), .int .u8 (s.s3.toNat : Int), .int .u8 (s.s4.toNat : Int), .int .u8 (s.s5.toNat : Int), .int .u8 (s.s6.toNat : Int), .int .u8 (s.s7.toNat : Int)] 26)).alloc (.cells #[.int .u8 (s.s0.toNat : Int), .int .u8 (s.s1.toNat : Int), .int .u8 (s.s2.toNat : Int), .int .u8 (s.s3.toNat : Int), .int .u8 (s.s4.toNat : Int), .int .u8 (s.s5.toNat : Int), .int .u8 (s.s6.toNat : Int), .int .u8 (s.s7.toNat : Int)] 26)) := ((Below.refl _ _).alloc (Nat.le_refl _) _).alloc (by simp) _
  obtain ⟨c, hc, hc2⟩ := utmod n 10 (by omega)
  have hc2' : (IntKind.u64.wrap n).tmod 10 = (c : Int) := hc2
  have hc3 := wrap64_small c (by omega)
  obtain ⟨K, hK⟩ : ∃ K, Hid (K = keyL l s (c + 1)) := ⟨_, rfl⟩
  subst ht
  have hx0 : bits .xor .u8 (s.s6.toNat : Int) 0 = (s.s6.toNat : Int) := by have h := bits_xor_B s.s6 0; simpa using h
  have hs0 := (Holds.newAt w 26 [.int .u8 (s.s0.toNat : Int), .int .u8 (s.s1.toNat : Int), .int .u8 (s.s2.toNat : Int), .int .u8 (s.s3.toNat : Int), .int .u8 (s.s4.toNat : Int), .int .u8 (s.s5.toNat : Int), .int .u8 (s.s6.toNat : Int), .int .u8 (s.s7.toNat : Int)] (n := w.heap.size) rfl).alloc (.cells #[.int .u8 (s.s0.toNat : Int), .int .u8 (s.s1.toNat : Int), .int .u8 (s.s2.toNat : Int), .int .u8 (s.s3.toNat : Int), .int .u8 (s.s4.toNat : Int), .int .u8 (s.s5.toNat : Int), .int .u8 (s.s6.toNat : Int), .int .u8 (s.s7.toNat : Int)] 26)
  have ht0 := Holds.newAt (w.alloc (.cells #[.int .u8 (s.s0.toNat : Int), .int .u8 (s.s1.toNat : Int), .int .u8 (s.s2.toNat : Int), .int .u8 (s.s3.toNat : Int), .int .u8 (s.s4.toNat : Int), .int .u8 (s.s5.toNat : Int), .int .u8 (s.s6.toNat : Int), .int .u8 (s.s7.toNat : Int)] 26)) 26 [.int .u8 (s.s0.toNat : Int), .int .u8 (s.s1.toNat : Int), .int .u8 (s.s2.toNat : Int), .int .u8 (s.s3.toNat : Int), .int .u8 (s.s4.toNat : Int), .int .u8 (s.s5.toNat : Int), .int .u8 (s.s6.toNat : Int), .int .u8 (s.s7.toNat : Int)] (n := w.heap.size + 1) (by simp)
  clear hc2
  go_enter Try.func13, Try.ntmps13
  go_wp2_with fail
  refine (kb_good l s (c + 1) _ (by omega) K hK (by omega) (by omega) (by omega) _).mono ?_
  rintro e w1 ⟨rfl, hb1⟩
  have ht1 := (ht0.below hb1 (by simp)).alloc (.cells #[.int .u32 (W K.k0), .int .u32 (W K.k1), .int .u32 (W K.k2), .int .u32 (W K.k3), .int .u32 (W K.k4), .int .u32 (W K.k5), .int .u32 (W K.k6), .int .u32 (W K.k7)] 28)
  have hk1 := Holds.newAt w1 28 [.int .u32 (W K.k0), .int .u32 (W K.k1), .int .u32 (W K.k2), .int .u32 (W K.k3), .int .u32 (W K.k4), .int .u32 (W K.k5), .int .u32 (W K.k6), .int .u32 (W K.k7)] (n := w1.heap.size) rfl
  have hbw1 := (hb0.trans (hb1.mono (by simp; omega))).alloc (by have := hb1.size; simp at this; omega) (.cells #[.int .u32 (W K.k0), .int .u32 (W K.k1), .int .u32 (W K.k2), .int .u32 (W K.k3), .int .u32 (W K.k4), .int .u32 (W K.k5), .int .u32 (W K.k6), .int .u32 (W K.k7)] 28)
  have t8 := ht1.eight
  clear hs0 ht0 hb0 hb1
  go_wp2_with fail
  refine (kb_good l s (c + 1) _ (by omega) K hK (by omega) (by omega) (by omega) _).mono ?_
  rintro e w2 ⟨rfl, hb2⟩
  have hk2 := (hk1.below hb2 hk1.lt).alloc (.cells #[.int .u32 (W K.k0), .int .u32 (W K.k1), .int .u32 (W K.k2), .int .u32 (W K.k3), .int .u32 (W K.k4), .int .u32 (W K.k5), .int .u32 (W K.k6), .int .u32 (W K.k7)] 28)
  have hm2 := Holds.newAt w2 28 [.int .u32 (W K.k0), .int .u32 (W K.k1), .int .u32 (W K.k2), .int .u32 (W K.k3), .int .u32 (W K.k4), .int .u32 (W K.k5), .int .u32 (W K.k6), .int .u32 (W K.k7)] (n := w2.heap.size) rfl
  have hbw2 := (hbw1.trans (hb2.mono hbw1.size)).alloc (by have := hbw1.size; have := hb2.size; omega) (.cells #[.int .u32 (W K.k0), .int .u32 (W K.k1), .int .u32 (W K.k2), .int .u32 (W K.k3), .int .u32 (W K.k4), .int .u32 (W K.k5), .int .u32 (W K.k6), .int .u32 (W K.k7)] 28)
  clear t8 ht1 hk1 hbw1 hb2
  go_wp2_with fail
  refine (told16 _).mono ?_
  rintro e w4 ⟨rfl, hb4⟩
  have k8 := (hk2.below hb4 hk2.lt).eight
  have m8 := (hm2.below hb4 hm2.lt).eight
  have hfin := hbw2.trans (hb4.mono hbw2.size)
  clear hk2 hm2 hbw2 hb4
  go_wp2_with fail
  go_ret
  exact ⟨ret_boolB (by simp), hfin⟩
set_option maxRecDepth 20000 in
set_option maxHeartbeats 8000000 in
theorem ks_6n (l : List UInt8) (s : S8) (p : Int) (t : UInt8) (n : Int) (w : World) (h4 : (IntKind.u64.wrap p).tmod 8 = 6) (h100 : ¬ 100 < l.length) (ht : t ≠ 0) :
    Calls Try.prog 13 #[.string (mkStr l), .agg #[.int .u8 (s.s0.toNat : Int), .int .u8 (s.s1.toNat : Int), .int .u8 (s.s2.toNat : Int), .int .u8 (s.s3.toNat : Int), .int .u8 (s.s4.toNat : Int), .int .u8 (s.s5.toNat : Int), .int .u8 (s.s6.toNat : Int), .int .u8 (s.s7.toNat : Int)], .int .i64 p, .int .u8 (t.toNat : Int), .int .i64 n] w fun e w' => e = .returned (.bool true) ∧ Below w.heap.size w w' := by
  have hsz : (mkStr l).size = l.length := mkStr_size l
  have hb0 : Below w.heap.size w ((w.alloc (.cells #[.int .u8 (s.s0.toNat : Int), .int .u8 (s.s1.toNat : Int), .int .u8 (s.s2.toNat : Int), .int .u8 (s.s3.toNat : Int), .int .u8 (s.s4.toNat : Int), .int .u8 (s.s5.toNat : Int), .int .u8 (s.s6.toNat : Int), .int .u8 (s.s7.toNat : Int)] 26)).alloc (.cells #[.int .u8 (s.s0.toNat : Int), .int .u8 (s.s1.toNat : Int), .int .u8 (s.s2.toNat : Int), .int .u8 (s.s3.toNat : Int), .int .u8 (s.s4.toNat : Int), .int .u8 (s.s5.toNat : Int), .int .u8 ((s.s6 ^^^ t).toNat : Int), .int .u8 (s.s7.toNat : Int)] 26)) := ((Below.refl _ _).alloc (Nat.le_refl _) _).alloc (by simp) _
  obtain ⟨c, hc, hc2⟩ := utmod n 10 (by omega)
  have hc2' : (IntKind.u64.wrap n).tmod 10 = (c : Int) := hc2
  have hc3 := wrap64_small c (by omega)
  obtain ⟨K, hK⟩ : ∃ K, Hid (K = keyL l s (c + 1)) := ⟨_, rfl⟩
  obtain ⟨M, hM⟩ : ∃ M, Hid (M = keyL l ⟨s.s0, s.s1, s.s2, s.s3, s.s4, s.s5, s.s6 ^^^ t, s.s7⟩ (c + 1)) := ⟨_, rfl⟩
  have hdif := kb_Ne (A := K) (B := M) (fun e => ht (by
    rw [hK.out, hM.out] at e
    have e2 := congrArg S8.s6 (keyL_inj l _ _ _ e)
    exact (xor_self_iff s.s6 t).1 e2))
  have hbt : ((t.toNat : Int) == 0) = false := B_beq0 t false (by simp [ht])
  have hs0 := (Holds.newAt w 26 [.int .u8 (s.s0.toNat : Int), .int .u8 (s.s1.toNat : Int), .int .u8 (s.s2.toNat : Int), .int .u8 (s.s3.toNat : Int), .int .u8 (s.s4.toNat : Int), .int .u8 (s.s5.toNat : Int), .int .u8 (s.s6.toNat : Int), .int .u8 (s.s7.toNat : Int)] (n := w.heap.size) rfl).alloc (.cells #[.int .u8 (s.s0.toNat : Int), .int .u8 (s.s1.toNat : Int), .int .u8 (s.s2.toNat : Int), .int .u8 (s.s3.toNat : Int), .int .u8 (s.s4.toNat : Int), .int .u8 (s.s5.toNat : Int), .int .u8 ((s.s6 ^^^ t).toNat : Int), .int .u8 (s.s7.toNat : Int)] 26)
  have ht0 := Holds.newAt (w.alloc (.cells #[.int .u8 (s.s0.toNat : Int), .int .u8 (s.s1.toNat : Int), .int .u8 (s.s2.toNat : Int), .int .u8 (s.s3.toNat : Int), .int .u8 (s.s4.toNat : Int), .int .u8 (s.s5.toNat : Int), .int .u8 (s.s6.toNat : Int), .int .u8 (s.s7.toNat : Int)] 26)) 26 [.int .u8 (s.s0.toNat : Int), .int .u8 (s.s1.toNat : Int), .int .u8 (s.s2.toNat : Int), .int .u8 (s.s3.toNat : Int), .int .u8 (s.s4.toNat : Int), .int .u8 (s.s5.toNat : Int), .int .u8 ((s.s6 ^^^ t).toNat : Int), .int .u8 (s.s7.toNat : Int)] (n := w.heap.size + 1) (by simp)
  clear hc2
  go_enter Try.func13, Try.ntmps13
  go_wp2_with fail
  refine (kb_good l s (c + 1) _ (by omega) K hK (by omega) (by omega) (by omega) _).mono ?_
  rintro e w1 ⟨rfl, hb1⟩
  have ht1 := (ht0.below hb1 (by simp)).alloc (.cells #[.int .u32 (W K.k0), .int .u32 (W K.k1), .int .u32 (W K.k2), .int .u32 (W K.k3), .int .u32 (W K.k4), .int .u32 (W K.k5), .int .u32 (W K.k6), .int .u32 (W K.k7)] 28)
  have hk1 := Holds.newAt w1 28 [.int .u32 (W K.k0), .int .u32 (W K.k1), .int .u32 (W K.k2), .int .u32 (W K.k3), .int .u32 (W K.k4), .int .u32 (W K.k5), .int .u32 (W K.k6), .int .u32 (W K.k7)] (n := w1.heap.size) rfl
  have hbw1 := (hb0.trans (hb1.mono (by simp; omega))).alloc (by have := hb1.size; simp at this; omega) (.cells #[.int .u32 (W K.k0), .int .u32 (W K.k1), .int .u32 (W K.k2), .int .u32 (W K.k3), .int .u32 (W K.k4), .int .u32 (W K.k5), .int .u32 (W K.k6), .int .u32 (W K.k7)] 28)
  have t8 := ht1.eight
  clear hs0 ht0 hb0 hb1
  go_wp2_with fail
  refine (kb_good l ⟨s.s0, s.s1, s.s2, s.s3, s.s4, s.s5, s.s6 ^^^ t, s.s7⟩ (c + 1) _ (by omega) M hM (by omega) (by omega) (by omega) _).mono ?_
  rintro e w2 ⟨rfl, hb2⟩
  have hk2 := (hk1.below hb2 hk1.lt).alloc (.cells #[.int .u32 (W M.k0), .int .u32 (W M.k1), .int .u32 (W M.k2), .int .u32 (W M.k3), .int .u32 (W M.k4), .int .u32 (W M.k5), .int .u32 (W M.k6), .int .u32 (W M.k7)] 28)
  have hm2 := Holds.newAt w2 28 [.int .u32 (W M.k0), .int .u32 (W M.k1), .int .u32 (W M.k2), .int .u32 (W M.k3), .int .u32 (W M.k4), .int .u32 (W M.k5), .int .u32 (W M.k6), .int .u32 (W M.k7)] (n := w2.heap.size) rfl
  have hbw2 := (hbw1.trans (hb2.mono hbw1.size)).alloc (by have := hbw1.size; have := hb2.size; omega) (.cells #[.int .u32 (W M.k0), .int .u32 (W M.k1), .int .u32 (W M.k2), .int .u32 (W M.k3), .int .u32 (W M.k4), .int .u32 (W M.k5), .int .u32 (W M.k6), .int .u32 (W M.k7)] 28)
  clear t8 ht1 hk1 hbw1 hb2
  go_wp2_with fail
  refine (told16 _).mono ?_
  rintro e w4 ⟨rfl, hb4⟩
  have k8 := (hk2.below hb4 hk2.lt).eight
  have m8 := (hm2.below hb4 hm2.lt).eight
  have hfin := hbw2.trans (hb4.mono hbw2.size)
  clear hk2 hm2 hbw2 hb4
  go_wp2_with fail
  go_ret
  exact ⟨ret_boolB (by simp), hfin⟩
set_option maxRecDepth 20000 in
set_option maxHeartbeats 8000000 in
theorem ks_7z (l : List UInt8) (s : S8) (p : Int) (t : UInt8) (n : Int) (w : World) (h4 : (IntKind.u64.wrap p).tmod 8 = 7) (h100 : ¬ 100 < l.length) (ht : t = 0) :
    Calls Try.prog 13 #[.string (mkStr l), .agg #[.int .u8 (s.s0.toNat : Int), .int .u8 (s.s1.toNat : Int), .int .u8 (s.s2.toNat : Int), .int .u8 (s.s3.toNat : Int), .int .u8 (s.s4.toNat : Int), .int .u8 (s.s5.toNat : Int), .int .u8 (s.s6.toNat : Int), .int .u8 (s.s7.toNat : Int)], .int .i64 p, .int .u8 (t.toNat : Int), .int .i64 n] w fun e w' => e = .returned (.bool true) ∧ Below w.heap.size w w' := by
  have hsz : (mkStr l).size = l.length := mkStr_size l
  have hb0 : Below w.heap.size w ((w.alloc (.cells #[.int .u8 (s.s0.toNat : Int), .int .u8 (s.s1.toNat : Int), .int .u8 (s.s2.toNat : Int), .int .u8 (s.s3.toNat : Int), .int .u8 (s.s4.toNat : Int), .int .u8 (s.s5.toNat : Int), .int .u8 (s.s6.toNat : Int), .int .u8 (s.s7.toNat : Int)] 26)).alloc (.cells #[.int .u8 (s.s0.toNat : Int), .int .u8 (s.s1.toNat : Int), .int .u8 (s.s2.toNat : Int), .int .u8 (s.s3.toNat : Int), .int .u8 (s.s4.toNat : Int), .int .u8 (s.s5.toNat : Int), .int .u8 (s.s6.toNat : Int), .int .u8 (s.s7.toNat : Int)] 26)) := ((Below.refl _ _).alloc (Nat.le_refl _) _).alloc (by simp) _
  obtain ⟨c, hc, hc2⟩ := utmod n 10 (by omega)
  have hc2' : (IntKind.u64.wrap n).tmod 10 = (c : Int) := hc2
  have hc3 := wrap64_small c (by omega)
  obtain ⟨K, hK⟩ : ∃ K, Hid (K = keyL l s (c + 1)) := ⟨_, rfl⟩
  subst ht
  have hx0 : bits .xor .u8 (s.s7.toNat : Int) 0 = (s.s7.toNat : Int) := by have h := bits_xor_B s.s7 0; simpa using h
  have hs0 := (Holds.newAt w 26 [.int .u8 (s.s0.toNat : Int), .int .u8 (s.s1.toNat : Int), .int .u8 (s.s2.toNat : Int), .int .u8 (s.s3.toNat : Int), .int .u8 (s.s4.toNat : Int), .int .u8 (s.s5.toNat : Int), .int .u8 (s.s6.toNat : Int), .int .u8 (s.s7.toNat : Int)] (n := w.heap.size) rfl).alloc (.cells #[.int .u8 (s.s0.toNat : Int), .int .u8 (s.s1.toNat : Int), .int .u8 (s.s2.toNat : Int), .int .u8 (s.s3.toNat : Int), .int .u8 (s.s4.toNat : Int), .int .u8 (s.s5.toNat : Int), .int .u8 (s.s6.toNat : Int), .int .u8 (s.s7.toNat : Int)] 26)
  have ht0 := Holds.newAt (w.alloc (.cells #[.int .u8 (s.s0.toNat : Int), .int .u8 (s.s1.toNat : Int), .int .u8 (s.s2.toNat : Int), .int .u8 (s.s3.toNat : Int), .int .u8 (s.s4.toNat : Int), .int .u8 (s.s5.toNat : Int), .int .u8 (s.s6.toNat : Int), .int .u8 (s.s7.toNat : Int)] 26)) 26 [.int .u8 (s.s0.toNat : Int), .int .u8 (s.s1.toNat : Int), .int .u8 (s.s2.toNat : Int), .int .u8 (s.s3.toNat : Int), .int .u8 (s.s4.toNat : Int), .int .u8 (s.s5.toNat : Int), .int .u8 (s.s6.toNat : Int), .int .u8 (s.s7.toNat : Int)] (n := w.heap.size + 1) (by simp)
  clear hc2
  go_enter Try.func13, Try.ntmps13
  go_wp2_with fail
  refine (kb_good l s (c + 1) _ (by omega) K hK (by omega) (by omega) (by omega) _).mono ?_
  rintro e w1 ⟨rfl, hb1⟩
  have ht1 := (ht0.below hb1 (by simp)).alloc (.cells #[.int .u32 (W K.k0), .int .u32 (W K.k1), .int .u32 (W K.k2), .int .u32 (W K.k3), .int .u32 (W K.k4), .int .u32 (W K.k5), .int .u32 (W K.k6), .int .u32 (W K.k7)] 28)
  have hk1 := Holds.newAt w1 28 [.int .u32 (W K.k0), .int .u32 (W K.k1), .int .u32 (W K.k2), .int .u32 (W K.k3), .int .u32 (W K.k4), .int .u32 (W K.k5), .int .u32 (W K.k6), .int .u32 (W K.k7)] (n := w1.heap.size) rfl
  have hbw1 := (hb0.trans (hb1.mono (by simp; omega))).alloc (by have := hb1.size; simp at this; omega) (.cells #[.int .u32 (W K.k0), .int .u32 (W K.k1), .int .u32 (W K.k2), .int .u32 (W K.k3), .int .u32 (W K.k4), .int .u32 (W K.k5), .int .u32 (W K.k6), .int .u32 (W K.k7)] 28)
  have t8 := ht1.eight
  clear hs0 ht0 hb0 hb1
  go_wp2_with fail
  refine (kb_good l s (c + 1) _ (by omega) K hK (by omega) (by omega) (by omega) _).mono ?_
  rintro e w2 ⟨rfl, hb2⟩
  have hk2 := (hk1.below hb2 hk1.lt).alloc (.cells #[.int .u32 (W K.k0), .int .u32 (W K.k1), .int .u32 (W K.k2), .int .u32 (W K.k3), .int .u32 (W K.k4), .int .u32 (W K.k5), .int .u32 (W K.k6), .int .u32 (W K.k7)] 28)
  have hm2 := Holds.newAt w2 28 [.int .u32 (W K.k0), .int .u32 (W K.k1), .int .u32 (W K.k2), .int .u32 (W K.k3), .int .u32 (W K.k4), .int .u32 (W K.k5), .int .u32 (W K.k6), .int .u32 (W K.k7)] (n := w2.heap.size) rfl
  have hbw2 := (hbw1.trans (hb2.mono hbw1.size)).alloc (by have := hbw1.size; have := hb2.size; omega) (.cells #[.int .u32 (W K.k0), .int .u32 (W K.k1), .int .u32 (W K.k2), .int .u32 (W K.k3), .int .u32 (W K.k4), .int .u32 (W K.k5), .int .u32 (W K.k6), .int .u32 (W K.k7)] 28)
  clear t8 ht1 hk1 hbw1 hb2
  go_wp2_with fail
  refine (told16 _).mono ?_
  rintro e w4 ⟨rfl, hb4⟩
  have k8 := (hk2.below hb4 hk2.lt).eight
  have m8 := (hm2.below hb4 hm2.lt).eight
  have hfin := hbw2.trans (hb4.mono hbw2.size)
  clear hk2 hm2 hbw2 hb4
  go_wp2_with fail
  go_ret
  exact ⟨ret_boolB (by simp), hfin⟩
set_option maxRecDepth 20000 in
set_option maxHeartbeats 8000000 in
theorem ks_7n (l : List UInt8) (s : S8) (p : Int) (t : UInt8) (n : Int) (w : World) (h4 : (IntKind.u64.wrap p).tmod 8 = 7) (h100 : ¬ 100 < l.length) (ht : t ≠ 0) :
    Calls Try.prog 13 #[.string (mkStr l), .agg #[.int .u8 (s.s0.toNat : Int), .int .u8 (s.s1.toNat : Int), .int .u8 (s.s2.toNat : Int), .int .u8 (s.s3.toNat : Int), .int .u8 (s.s4.toNat : Int), .int .u8 (s.s5.toNat : Int), .int .u8 (s.s6.toNat : Int), .int .u8 (s.s7.toNat : Int)], .int .i64 p, .int .u8 (t.toNat : Int), .int .i64 n] w fun e w' => e = .returned (.bool true) ∧ Below w.heap.size w w' := by
  have hsz : (mkStr l).size = l.length := mkStr_size l
  have hb0 : Below w.heap.size w ((w.alloc (.cells #[.int .u8 (s.s0.toNat : Int), .int .u8 (s.s1.toNat : Int), .int .u8 (s.s2.toNat : Int), .int .u8 (s.s3.toNat : Int), .int .u8 (s.s4.toNat : Int), .int .u8 (s.s5.toNat : Int), .int .u8 (s.s6.toNat : Int), .int .u8 (s.s7.toNat : Int)] 26)).alloc (.cells #[.int .u8 (s.s0.toNat : Int), .int .u8 (s.s1.toNat : Int), .int .u8 (s.s2.toNat : Int), .int .u8 (s.s3.toNat : Int), .int .u8 (s.s4.toNat : Int), .int .u8 (s.s5.toNat : Int), .int .u8 (s.s6.toNat : Int), .int .u8 ((s.s7 ^^^ t).toNat : Int)] 26)) := ((Below.refl _ _).alloc (Nat.le_refl _) _).alloc (by simp) _
  obtain ⟨c, hc, hc2⟩ := utmod n 10 (by omega)
  have hc2' : (IntKind.u64.wrap n).tmod 10 = (c : Int) := hc2
  have hc3 := wrap64_small c (by omega)
  obtain ⟨K, hK⟩ : ∃ K, Hid (K = keyL l s (c + 1)) := ⟨_, rfl⟩
  obtain ⟨M, hM⟩ : ∃ M, Hid (M = keyL l ⟨s.s0, s.s1, s.s2, s.s3, s.s4, s.s5, s.s6, s.s7 ^^^ t⟩ (c + 1)) := ⟨_, rfl⟩
  have hdif := kb_Ne (A := K) (B := M) (fun e => ht (by
    rw [hK.out, hM.out] at e
    have e2 := congrArg S8.s7 (keyL_inj l _ _ _ e)
    exact (xor_self_iff s.s7 t).1 e2))
  have hbt : ((t.toNat : Int) == 0) = false := B_beq0 t false (by simp [ht])
  have hs0 := (Holds.newAt w 26 [.int .u8 (s.s0.toNat : Int), .int .u8 (s.s1.toNat : Int), .int .u8 (s.s2.toNat : Int), .int .u8 (s.s3.toNat : Int), .int .u8 (s.s4.toNat : Int), .int .u8 (s.s5.toNat : Int), .int .u8 (s.s6.toNat : Int), .int .u8 (s.s7.toNat : Int)] (n := w.heap.size) rfl).alloc (.cells #[.int .u8 (s.s0.toNat : Int), .int .u8 (s.s1.toNat : Int), .int .u8 (s.s2.toNat : Int), .int .u8 (s.s3.toNat : Int), .int .u8 (s.s4.toNat : Int), .int .u8 (s.s5.toNat : Int), .int .u8 (s.s6.toNat : Int), .int .u8 ((s.s7 ^^^ t).toNat : Int)] 26)
  have ht0 := Holds.newAt (w.alloc (.cells #[.int .u8 (s.s0.toNat : Int), .int .u8 (s.s1.toNat : Int), .int .u8 (s.s2.toNat : Int), .int .u8 (s.s3.toNat : Int), .int .u8 (s.s4.toNat : Int), .int .u8 (s.s5.toNat : Int), .int .u8 (s.s6.toNat : Int), .int .u8 (s.s7.toNat : Int)] 26)) 26 [.int .u8 (s.s0.toNat : Int), .int .u8 (s.s1.toNat : Int), .int .u8 (s.s2.toNat : Int), .int .u8 (s.s3.toNat : Int), .int .u8 (s.s4.toNat : Int), .int .u8 (s.s5.toNat : Int), .int .u8 (s.s6.toNat : Int), .int .u8 ((s.s7 ^^^ t).toNat : Int)] (n := w.heap.size + 1) (by simp)
  clear hc2
  go_enter Try.func13, Try.ntmps13
  go_wp2_with fail
  refine (kb_good l s (c + 1) _ (by omega) K hK (by omega) (by omega) (by omega) _).mono ?_
  rintro e w1 ⟨rfl, hb1⟩
  have ht1 := (ht0.below hb1 (by simp)).alloc (.cells #[.int .u32 (W K.k0), .int .u32 (W K.k1), .int .u32 (W K.k2), .int .u32 (W K.k3), .int .u32 (W K.k4), .int .u32 (W K.k5), .int .u32 (W K.k6), .int .u32 (W K.k7)] 28)
  have hk1 := Holds.newAt w1 28 [.int .u32 (W K.k0), .int .u32 (W K.k1), .int .u32 (W K.k2), .int .u32 (W K.k3), .int .u32 (W K.k4), .int .u32 (W K.k5), .int .u32 (W K.k6), .int .u32 (W K.k7)] (n := w1.heap.size) rfl
  have hbw1 := (hb0.trans (hb1.mono (by simp; omega))).alloc (by have := hb1.size; simp at this; omega) (.cells #[.int .u32 (W K.k0), .int .u32 (W K.k1), .int .u32 (W K.k2), .int .u32 (W K.k3), .int .u32 (W K.k4), .int .u32 (W K.k5), .int .u32 (W K.k6), .int .u32 (W K.k7)] 28)
  have t8 := ht1.eight
  clear hs0 ht0 hb0 hb1
  go_wp2_with fail
  refine (kb_good l ⟨s.s0, s.s1, s.s2, s.s3, s.s4, s.s5, s.s6, s.s7 ^^^ t⟩ (c + 1) _ (by omega) M hM (by omega) (by omega) (by omega) _).mono ?_
  rintro e w2 ⟨rfl, hb2⟩
  have hk2 := (hk1.below hb2 hk1.lt).alloc (.cells #[.int .u32 (W M.k0), .int .u32 (W M.k1), .int .u32 (W M.k2), .int .u32 (W M.k3), .int .u32 (W M.k4), .int .u32 (W M.k5), .int .u32 (W M.k6), .int .u32 (W M.k7)] 28)
  have hm2 := Holds.newAt w2 28 [.int .u32 (W M.k0), .int .u32 (W M.k1), .int .u32 (W M.k2), .int .u32 (W M.k3), .int .u32 (W M.k4), .int .u32 (W M.k5), .int .u32 (W M.k6), .int .u32 (W M.k7)] (n := w2.heap.size) rfl
  have hbw2 := (hbw1.trans (hb2.mono hbw1.size)).alloc (by have := hbw1.size; have := hb2.size; omega) (.cells #[.int .u32 (W M.k0), .int .u32 (W M.k1), .int .u32 (W M.k2), .int .u32 (W M.k3), .int .u32 (W M.k4), .int .u32 (W M.k5), .int .u32 (W M.k6), .int .u32 (W M.k7)] 28)
  clear t8 ht1 hk1 hbw1 hb2
  go_wp2_with fail
  refine (told16 _).mono ?_
  rintro e w4 ⟨rfl, hb4⟩
  have k8 := (hk2.below hb4 hk2.lt).eight
  have m8 := (hm2.below hb4 hm2.lt).eight
  have hfin := hbw2.trans (hb4.mono hbw2.size)
  clear hk2 hm2 hbw2 hb4
  go_wp2_with fail
  go_ret
  exact ⟨ret_boolB (by simp), hfin⟩
theorem walk_KeySalts (S : ByteArray) (sl : List UInt8) (p : Int) (t : UInt8) (n : Int) (w : World) (_hS : S.size ≤ maxLen) (hsl : sl.length = 8) (_hp : -9223372036854775808 ≤ p ∧ p < 9223372036854775808) (_hn : -9223372036854775808 ≤ n ∧ n < 9223372036854775808) :
    Calls Try.prog 13 #[.string S, .agg (bvals sl).toArray, .int .i64 p, .int .u8 (t.toNat : Int), .int .i64 n] w fun e w' => e = .returned (.bool true) ∧ Below w.heap.size w w' := by
  obtain ⟨l, rfl⟩ := str_of S
  obtain ⟨s, rfl⟩ := s8_of sl hsl
  have hsz : (mkStr l).size = l.length := mkStr_size l
  show Calls Try.prog 13 #[.string (mkStr l), .agg #[.int .u8 (s.s0.toNat : Int), .int .u8 (s.s1.toNat : Int), .int .u8 (s.s2.toNat : Int), .int .u8 (s.s3.toNat : Int), .int .u8 (s.s4.toNat : Int), .int .u8 (s.s5.toNat : Int), .int .u8 (s.s6.toNat : Int), .int .u8 (s.s7.toNat : Int)], .int .i64 p, .int .u8 (t.toNat : Int), .int .i64 n] w _
  have hb0 : Below w.heap.size w (w.alloc (.cells #[.int .u8 (s.s0.toNat : Int), .int .u8 (s.s1.toNat : Int), .int .u8 (s.s2.toNat : Int), .int .u8 (s.s3.toNat : Int), .int .u8 (s.s4.toNat : Int), .int .u8 (s.s5.toNat : Int), .int .u8 (s.s6.toNat : Int), .int .u8 (s.s7.toNat : Int)] 26)) := (Below.refl _ _).alloc (Nat.le_refl _) _
  clear _hS hsl
  by_cases h100 : 100 < l.length
  · go_enter Try.func13, Try.ntmps13
    go_wp2_with fail
    refine (told16 _).mono ?_
    rintro e w1 ⟨rfl, hb1⟩
    go_wp2
    go_ret
    exact ⟨rfl, hb0.trans (hb1.mono (by simp))⟩
  · obtain ⟨i, hi, h4⟩ := utmod p 8 (by omega)
    by_cases ht : t = 0
    · obtain rfl | rfl | rfl | rfl | rfl | rfl | rfl | rfl : i = 0 ∨ i = 1 ∨ i = 2 ∨ i = 3 ∨ i = 4 ∨ i = 5 ∨ i = 6 ∨ i = 7 := by omega
      · exact ks_0z l s p t n w h4 h100 ht
      · exact ks_1z l s p t n w h4 h100 ht
      · exact ks_2z l s p t n w h4 h100 ht
      · exact ks_3z l s p t n w h4 h100 ht
      · exact ks_4z l s p t n w h4 h100 ht
      · exact ks_5z l s p t n w h4 h100 ht
      · exact ks_6z l s p t n w h4 h100 ht
      · exact ks_7z l s p t n w h4 h100 ht
    · obtain rfl | rfl | rfl | rfl | rfl | rfl | rfl | rfl : i = 0 ∨ i = 1 ∨ i = 2 ∨ i = 3 ∨ i = 4 ∨ i = 5 ∨ i = 6 ∨ i = 7 := by omega
      · exact ks_0n l s p t n w h4 h100 ht
      · exact ks_1n l s p t n w h4 h100 ht
      · exact ks_2n l s p t n w h4 h100 ht
      · exact ks_3n l s p t n w h4 h100 ht
      · exact ks_4n l s p t n w h4 h100 ht
      · exact ks_5n l s p t n w h4 h100 ht
      · exact ks_6n l s p t n w h4 h100 ht
      · exact ks_7n l s p t n w h4 h100 ht
end Go.Proofs.Ytcdklmicbbcknaa
