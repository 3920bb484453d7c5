/-
  key.Of and its like, said for the walks of the laws: the key a letter (printed by kb.py).
-/
import Derived.Test.YtcdklmicbbcknaaKt
import Derived.Test.YtcdklmicbbcknaaKr
namespace Go.Proofs.Ytcdklmicbbcknaa
open Go Go.RowKit
theorem kb_good (l : List UInt8) (s : S8) (n : Nat) (z : Int) (hz : z = n) (M : K8) (hM : Hid (M = keyL l s n)) (hl : l.length ≤ 100) (h1 : 1 ≤ n) (h2 : n ≤ 1000) (w : World) :
    Calls Try.prog 37 #[.string (mkStr l), .agg #[.int .u8 (s.s0.toNat : Int), .int .u8 (s.s1.toNat : Int), .int .u8 (s.s2.toNat : Int), .int .u8 (s.s3.toNat : Int), .int .u8 (s.s4.toNat : Int), .int .u8 (s.s5.toNat : Int), .int .u8 (s.s6.toNat : Int), .int .u8 (s.s7.toNat : Int)], .int .i64 z] w fun e w' => e = .returned (.tuple #[.agg #[.int .u32 (W M.k0), .int .u32 (W M.k1), .int .u32 (W M.k2), .int .u32 (W M.k3), .int .u32 (W M.k4), .int .u32 (W M.k5), .int .u32 (W M.k6), .int .u32 (W M.k7)], .int .i64 0]) ∧ Below w.heap.size w w' := by
  subst hz
  obtain rfl := hM.out
  exact key_good l s n w hl h1 h2
theorem kb_next (l : List UInt8) (s : S8) (n : Nat) (z : Int) (hz : z = n + 1) (K M : K8) (q : BitVec 32) (hK : Hid (K = keyL l s n)) (hM : Hid (M = mix K)) (hq : Hid (q = BitVec.ofNat 32 (n + 1))) (hl : l.length ≤ 100) (h2 : n + 1 ≤ 1000) (w : World) :
    Calls Try.prog 37 #[.string (mkStr l), .agg #[.int .u8 (s.s0.toNat : Int), .int .u8 (s.s1.toNat : Int), .int .u8 (s.s2.toNat : Int), .int .u8 (s.s3.toNat : Int), .int .u8 (s.s4.toNat : Int), .int .u8 (s.s5.toNat : Int), .int .u8 (s.s6.toNat : Int), .int .u8 (s.s7.toNat : Int)], .int .i64 z] w fun e w' => e = .returned (.tuple #[.agg #[.int .u32 (W M.k0), .int .u32 (W M.k1), .int .u32 (W M.k2), .int .u32 (W M.k3), .int .u32 (W M.k4), .int .u32 (W M.k5), .int .u32 (W M.k6), .int .u32 (W (M.k7 ^^^ q))], .int .i64 0]) ∧ Below w.heap.size w w' := by
  subst hz
  obtain rfl := hK.out
  obtain rfl := hM.out
  obtain rfl := hq.out
  exact key_good l s (n + 1) w hl (by omega) h2
theorem kb_bad (l : List UInt8) (s : S8) (n : Int) (h : 100 < l.length ∨ n < 1 ∨ 1000 < n) (w : World) :
    Calls Try.prog 37 #[.string (mkStr l), .agg #[.int .u8 (s.s0.toNat : Int), .int .u8 (s.s1.toNat : Int), .int .u8 (s.s2.toNat : Int), .int .u8 (s.s3.toNat : Int), .int .u8 (s.s4.toNat : Int), .int .u8 (s.s5.toNat : Int), .int .u8 (s.s6.toNat : Int), .int .u8 (s.s7.toNat : Int)], .int .i64 n] w fun e w' => e = .returned (.tuple #[.agg #[.int .u32 0, .int .u32 0, .int .u32 0, .int .u32 0, .int .u32 0, .int .u32 0, .int .u32 0, .int .u32 0], .int .i64 1]) ∧ Below w.heap.size w w' := key_bad l s n w h
theorem kb_mix (k M : K8) (hM : Hid (M = mix k)) (w : World) : Calls Try.prog 41 #[.agg #[.int .u32 (W k.k0), .int .u32 (W k.k1), .int .u32 (W k.k2), .int .u32 (W k.k3), .int .u32 (W k.k4), .int .u32 (W k.k5), .int .u32 (W k.k6), .int .u32 (W k.k7)]] w fun e w' => e = .returned (.agg #[.int .u32 (W M.k0), .int .u32 (W M.k1), .int .u32 (W M.k2), .int .u32 (W M.k3), .int .u32 (W M.k4), .int .u32 (W M.k5), .int .u32 (W M.k6), .int .u32 (W M.k7)]) ∧ Below w.heap.size w w' := by
  obtain rfl := hM.out
  exact mix_any k w
theorem kb_rgood (l : List UInt8) (s : S8) (n : Nat) (z : Int) (hz : z = n) (M : K8) (hM : Hid (M = keyL l s n)) (hl : l.length ≤ 100) (h1 : 1 ≤ n) (h2 : n ≤ 1000) (w : World) :
    Calls Try.prog 38 #[.string (mkStr l), .string (mkStr [s.s0, s.s1, s.s2, s.s3, s.s4, s.s5, s.s6, s.s7]), .int .i64 z] w fun e w' => e = .returned (.tuple #[.agg #[.int .u32 (W M.k0), .int .u32 (W M.k1), .int .u32 (W M.k2), .int .u32 (W M.k3), .int .u32 (W M.k4), .int .u32 (W M.k5), .int .u32 (W M.k6), .int .u32 (W M.k7)], .int .i64 0]) ∧ Below w.heap.size w w' := by
  subst hz
  obtain rfl := hM.out
  exact rkey_good l s n w hl h1 h2
set_option maxRecDepth 20000 in
set_option maxHeartbeats 4000000 in
theorem kb_rbad (l : List UInt8) (s : S8) (n : Int) (h : 100 < l.length ∨ n < 1 ∨ 1000 < n) (w : World) :
    Calls Try.prog 38 #[.string (mkStr l), .string (mkStr [s.s0, s.s1, s.s2, s.s3, s.s4, s.s5, s.s6, s.s7]), .int .i64 n] w fun e w' => e = .returned (.tuple #[.agg #[.int .u32 0, .int .u32 0, .int .u32 0, .int .u32 0, .int .u32 0, .int .u32 0, .int .u32 0, .int .u32 0], .int .i64 1]) ∧ Below w.heap.size w w' := by
  have hsz : (mkStr l).size = l.length := mkStr_size l
  have hsz2 : (mkStr [s.s0, s.s1, s.s2, s.s3, s.s4, s.s5, s.s6, s.s7]).size = 8 := rfl
  have hb0 : Below w.heap.size w ((w.alloc (.cells #[.int .u32 0, .int .u32 0, .int .u32 0, .int .u32 0, .int .u32 0, .int .u32 0, .int .u32 0, .int .u32 0] 32)).alloc (.cells #[.int .u32 0, .int .u32 0, .int .u32 0, .int .u32 0, .int .u32 0, .int .u32 0, .int .u32 0, .int .u32 0] 32)) := ((Below.refl _ _).alloc (Nat.le_refl _) _).alloc (by simp) _
  have hcase : 100 < l.length ∨ (l.length ≤ 100 ∧ n < 1) ∨ (l.length ≤ 100 ∧ 1 ≤ n ∧ 1000 < n) := by omega
  rcases hcase with h | ⟨h, h2⟩ | ⟨h, h2, h3⟩
  all_goals (
    go_enter Try.func38, Try.ntmps38
    go_wp2_with fail
    refine bodyPost_ret (v := .tuple #[.agg #[.int .u32 0, .int .u32 0, .int .u32 0, .int .u32 0, .int .u32 0, .int .u32 0, .int .u32 0, .int .u32 0], .int .i64 1]) (by simp [results, Try.results38, go_sem]) rfl ⟨rfl, hb0⟩)
theorem s8_of (l : List UInt8) (h : l.length = 8) : ∃ s : S8, l = s.list := by
  match l, h with
  | [a0, a1, a2, a3, a4, a5, a6, a7], _ => exact ⟨⟨a0, a1, a2, a3, a4, a5, a6, a7⟩, rfl⟩
theorem str_of (s : ByteArray) : ∃ l : List UInt8, s = mkStr l := ⟨s.data.toList, (mkStr_of s).symm⟩
theorem ret_boolB {b : Bool} (h : b = true) : Ending.returned (.bool b) = .returned (.bool true) := by rw [h]
theorem wrap64_small (n : Nat) (h : n < 1000000) : wrap64 (n : Int) = (n : Int) := by simp [wrap64]; omega
theorem kb_Ne {A B : K8} (h : A ≠ B) : Dif8 (W A.k0) (W A.k1) (W A.k2) (W A.k3) (W A.k4) (W A.k5) (W A.k6) (W A.k7) (W B.k0) (W B.k1) (W B.k2) (W B.k3) (W B.k4) (W B.k5) (W B.k6) (W B.k7) := by
  intro e
  simp only [List.cons.injEq, and_true] at e
  obtain ⟨e0, e1, e2, e3, e4, e5, e6, e7⟩ := e
  refine h ?_
  cases A; cases B
  simp only [K8.mk.injEq]
  exact ⟨W_inj e0, W_inj e1, W_inj e2, W_inj e3, W_inj e4, W_inj e5, W_inj e6, W_inj e7⟩
theorem eql_28_dif (w : World) (a0 a1 a2 a3 a4 a5 a6 a7 b0 b1 b2 b3 b4 b5 b6 b7 : Int) (h : Dif8 a0 a1 a2 a3 a4 a5 a6 a7 b0 b1 b2 b3 b4 b5 b6 b7) : (binOp .eql 28 (.agg #[.int .u32 a0, .int .u32 a1, .int .u32 a2, .int .u32 a3, .int .u32 a4, .int .u32 a5, .int .u32 a6, .int .u32 a7]) (.agg #[.int .u32 b0, .int .u32 b1, .int .u32 b2, .int .u32 b3, .int .u32 b4, .int .u32 b5, .int .u32 b6, .int .u32 b7])).run Try.prog w = .ok (.bool false) w := by
  rw [eql_28, decide_eq_false h]
theorem eql_28_same (w : World) (a0 a1 a2 a3 a4 a5 a6 a7 : Int) : (binOp .eql 28 (.agg #[.int .u32 a0, .int .u32 a1, .int .u32 a2, .int .u32 a3, .int .u32 a4, .int .u32 a5, .int .u32 a6, .int .u32 a7]) (.agg #[.int .u32 a0, .int .u32 a1, .int .u32 a2, .int .u32 a3, .int .u32 a4, .int .u32 a5, .int .u32 a6, .int .u32 a7])).run Try.prog w = .ok (.bool true) w := by
  rw [eql_28, decide_eq_true rfl]
end Go.Proofs.Ytcdklmicbbcknaa
