/-
  steamerlaw16.KeyRounds answers true and leaves old memory as it was: by a walk of its text (printed by keyrounds.py).
-/
import Derived.Test.YtcdklmicbbcknaaKb
namespace Go.Proofs.Ytcdklmicbbcknaa
open Go Go.RowKit
attribute [local go_sem ↓] eql_28_same
set_option maxRecDepth 20000 in
set_option maxHeartbeats 8000000 in
theorem walk_KeyRounds (S : ByteArray) (sl : List UInt8) (n : Int) (w : World) (_hS : S.size ≤ maxLen) (hsl : sl.length = 8) (_hn : -9223372036854775808 ≤ n ∧ n < 9223372036854775808) :
    Calls Try.prog 12 #[.string S, .agg (bvals sl).toArray, .int .i64 n] w fun e w' => e = .returned (.bool true) ∧ Below w.heap.size w w' := by
  obtain ⟨l, rfl⟩ := str_of S
  obtain ⟨s, rfl⟩ := s8_of sl hsl
  have hsz : (mkStr l).size = l.length := mkStr_size l
  show Calls Try.prog 12 #[.string (mkStr l), .agg #[.int .u8 (s.s0.toNat : Int), .int .u8 (s.s1.toNat : Int), .int .u8 (s.s2.toNat : Int), .int .u8 (s.s3.toNat : Int), .int .u8 (s.s4.toNat : Int), .int .u8 (s.s5.toNat : Int), .int .u8 (s.s6.toNat : Int), .int .u8 (s.s7.toNat : Int)], .int .i64 n] w _
  have hb0 : Below w.heap.size w (w.alloc (.cells #[.int .u8 (s.s0.toNat : Int), .int .u8 (s.s1.toNat : Int), .int .u8 (s.s2.toNat : Int), .int .u8 (s.s3.toNat : Int), .int .u8 (s.s4.toNat : Int), .int .u8 (s.s5.toNat : Int), .int .u8 (s.s6.toNat : Int), .int .u8 (s.s7.toNat : Int)] 26)) := (Below.refl _ _).alloc (Nat.le_refl _) _
  clear _hS hsl
  by_cases h100 : 100 < l.length
  · go_enter Try.func12, Try.ntmps12
    go_wp2_with fail
    refine (told16 _).mono ?_
    rintro e w1 ⟨rfl, hb1⟩
    go_wp2
    go_ret
    exact ⟨rfl, hb0.trans (hb1.mono (by simp))⟩
  · obtain ⟨c, hc, hc2⟩ := utmod n 30 (by omega)
    have hc2' : (IntKind.u64.wrap n).tmod 30 = (c : Int) := hc2
    have hc3 := wrap64_small c (by omega)
    obtain ⟨K, hK⟩ : ∃ K, Hid (K = keyL l s (c + 1)) := ⟨_, rfl⟩
    obtain ⟨M, hM⟩ : ∃ M, Hid (M = mix K) := ⟨_, rfl⟩
    obtain ⟨q, hq, hx⟩ : ∃ q : BitVec 32, Hid (q = BitVec.ofNat 32 (c + 1 + 1)) ∧ bits .xor .u32 (W M.k7) (1 + (c : Int) + 1) = W (M.k7 ^^^ q) := ⟨_, rfl, by
      have e : (1 + (c : Int) + 1) = W (BitVec.ofNat 32 (c + 1 + 1)) := by unfold W; rw [BitVec.toNat_ofNat]; omega
      rw [e, bits_xor_W]⟩
    have hs0 := Holds.newAt w 26 [.int .u8 (s.s0.toNat : Int), .int .u8 (s.s1.toNat : Int), .int .u8 (s.s2.toNat : Int), .int .u8 (s.s3.toNat : Int), .int .u8 (s.s4.toNat : Int), .int .u8 (s.s5.toNat : Int), .int .u8 (s.s6.toNat : Int), .int .u8 (s.s7.toNat : Int)] (n := w.heap.size) rfl
    clear hc2
    go_enter Try.func12, Try.ntmps12
    go_wp2_with fail
    refine (kb_good l s (c + 1) _ (by omega) K hK (by omega) (by omega) (by omega) _).mono ?_
    rintro e w1 ⟨rfl, hb1⟩
    have hs1 := (hs0.below hb1 (by simp)).alloc (.cells #[.int .u32 (W K.k0), .int .u32 (W K.k1), .int .u32 (W K.k2), .int .u32 (W K.k3), .int .u32 (W K.k4), .int .u32 (W K.k5), .int .u32 (W K.k6), .int .u32 (W K.k7)] 28)
    have hk1 := Holds.newAt w1 28 [.int .u32 (W K.k0), .int .u32 (W K.k1), .int .u32 (W K.k2), .int .u32 (W K.k3), .int .u32 (W K.k4), .int .u32 (W K.k5), .int .u32 (W K.k6), .int .u32 (W K.k7)] (n := w1.heap.size) rfl
    have hbw1 := (hb0.trans (hb1.mono (by simp))).alloc (by have := hb1.size; simp at this; omega) (.cells #[.int .u32 (W K.k0), .int .u32 (W K.k1), .int .u32 (W K.k2), .int .u32 (W K.k3), .int .u32 (W K.k4), .int .u32 (W K.k5), .int .u32 (W K.k6), .int .u32 (W K.k7)] 28)
    have s8 := hs1.eight
    clear hs0 hb0 hb1
    go_wp2_with fail
    refine (kb_next l s (c + 1) _ (by omega) K M q hK hM hq (by omega) (by omega) _).mono ?_
    rintro e w2 ⟨rfl, hb2⟩
    have hk2 := (hk1.below hb2 hk1.lt).alloc (.cells #[.int .u32 (W M.k0), .int .u32 (W M.k1), .int .u32 (W M.k2), .int .u32 (W M.k3), .int .u32 (W M.k4), .int .u32 (W M.k5), .int .u32 (W M.k6), .int .u32 (W (M.k7 ^^^ q))] 28)
    have hm2 := Holds.newAt w2 28 [.int .u32 (W M.k0), .int .u32 (W M.k1), .int .u32 (W M.k2), .int .u32 (W M.k3), .int .u32 (W M.k4), .int .u32 (W M.k5), .int .u32 (W M.k6), .int .u32 (W (M.k7 ^^^ q))] (n := w2.heap.size) rfl
    have hbw2 := (hbw1.trans (hb2.mono hbw1.size)).alloc (by have := hbw1.size; have := hb2.size; omega) (.cells #[.int .u32 (W M.k0), .int .u32 (W M.k1), .int .u32 (W M.k2), .int .u32 (W M.k3), .int .u32 (W M.k4), .int .u32 (W M.k5), .int .u32 (W M.k6), .int .u32 (W (M.k7 ^^^ q))] 28)
    clear s8 hs1 hk1 hbw1 hb2
    have k8 := hk2.eight
    go_wp2_with fail
    refine (kb_mix K M hM _).mono ?_
    rintro e w3 ⟨rfl, hb3⟩
    have hm3 := (hm2.below hb3 hm2.lt).alloc (.cells #[.int .u32 (W M.k0), .int .u32 (W M.k1), .int .u32 (W M.k2), .int .u32 (W M.k3), .int .u32 (W M.k4), .int .u32 (W M.k5), .int .u32 (W M.k6), .int .u32 (W (M.k7 ^^^ q))] 28)
    have hx3 := Holds.newAt w3 28 [.int .u32 (W M.k0), .int .u32 (W M.k1), .int .u32 (W M.k2), .int .u32 (W M.k3), .int .u32 (W M.k4), .int .u32 (W M.k5), .int .u32 (W M.k6), .int .u32 (W (M.k7 ^^^ q))] (n := w3.heap.size) rfl
    have hbw3 := (hbw2.trans (hb3.mono hbw2.size)).alloc (by have := hbw2.size; have := hb3.size; omega) (.cells #[.int .u32 (W M.k0), .int .u32 (W M.k1), .int .u32 (W M.k2), .int .u32 (W M.k3), .int .u32 (W M.k4), .int .u32 (W M.k5), .int .u32 (W M.k6), .int .u32 (W (M.k7 ^^^ q))] 28)
    clear k8 hk2 hm2 hbw2 hb3
    go_wp2_with fail
    refine (told16 _).mono ?_
    rintro e w4 ⟨rfl, hb4⟩
    have m8 := (hm3.below hb4 hm3.lt).eight
    have x8 := (hx3.below hb4 hx3.lt).eight
    have hfin := hbw3.trans (hb4.mono hbw3.size)
    clear hm3 hx3 hbw3 hb4
    go_wp2_with fail
    go_ret
    exact ⟨ret_boolB (by simp), hfin⟩
end Go.Proofs.Ytcdklmicbbcknaa
