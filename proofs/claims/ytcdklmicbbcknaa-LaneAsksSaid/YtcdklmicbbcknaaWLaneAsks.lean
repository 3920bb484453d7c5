/-
  steamerlaw14.LaneAsks answers true and leaves old memory as it was: by a walk of its text (printed by laneasks.py).
-/
import Derived.Test.YtcdklmicbbcknaaRx
import Derived.Test.YtcdklmicbbcknaaWLaneBack
namespace Go.Proofs.Ytcdklmicbbcknaa
open Go Go.RowKit
def streamI (k : K8) (p m : Int) : List UInt8 := if m < 0 then [] else streamL k p m.toNat
theorem la_stream (k : K8) (p m : Int) (hm : m ≤ 300) (R : List UInt8) (hR : Hid (R = streamI k p m)) (w : World) : Calls Try.prog 46 #[.agg #[.int .u32 (W k.k0), .int .u32 (W k.k1), .int .u32 (W k.k2), .int .u32 (W k.k3), .int .u32 (W k.k4), .int .u32 (W k.k5), .int .u32 (W k.k6), .int .u32 (W k.k7)], .int .i64 p, .int .i64 m] w fun e w' => ∃ A c, e = .returned (.slice A R.length c) ∧ Bts w' A R ∧ Below w.heap.size w w' := by
  by_cases h : m < 0
  · obtain rfl : R = [] := by rw [hR.out, streamI, if_pos h]
    refine (stream_bad k p m w (Or.inl h)).mono ?_
    rintro e w' ⟨rfl, hb⟩
    exact ⟨none, 0, rfl, Bts.nil _ _, hb⟩
  · obtain rfl : R = streamL k p m.toNat := by rw [hR.out, streamI, if_neg h]
    have h1 := stream_any k p m.toNat w (by omega)
    rw [Int.toNat_of_nonneg (by omega)] at h1
    refine h1.mono ?_
    rintro e w' ⟨A, c, r, hr, rfl, ho, hb⟩
    obtain rfl := hr.out
    exact ⟨A, c, rfl, ho.bts, hb⟩
theorem la_rbad (k : K8) (p n : Int) (w : World) (hn : n < 0) :
    Calls Try.prog 47 #[.agg k.vals.toArray, .int .i64 p, .int .i64 n] w fun e w' => e = .returned (.string (mkStr [])) ∧ Below w.heap.size w w' := by
  have hb0 : Below w.heap.size w (w.alloc (.cells k.vals.toArray 32)) := (Below.refl _ _).alloc (Nat.le_refl _) _
  unfold K8.vals at *
  go_enter Try.func47, Try.ntmps47
  go_wp2_with fail
  go_ret
  exact ⟨rfl, hb0⟩
theorem la_rstream (k : K8) (p m : Int) (hm : m ≤ 300) (R : List UInt8) (hR : Hid (R = streamI k p m)) (w : World) : Calls Try.prog 47 #[.agg #[.int .u32 (W k.k0), .int .u32 (W k.k1), .int .u32 (W k.k2), .int .u32 (W k.k3), .int .u32 (W k.k4), .int .u32 (W k.k5), .int .u32 (W k.k6), .int .u32 (W k.k7)], .int .i64 p, .int .i64 m] w fun e w' => e = .returned (.string (mkStr R)) ∧ Below w.heap.size w w' := by
  by_cases h : m < 0
  · obtain rfl : R = [] := by rw [hR.out, streamI, if_pos h]
    exact la_rbad k p m w h
  · obtain rfl : R = streamL k p m.toNat := by rw [hR.out, streamI, if_neg h]
    have h1 := rstream_any k p m.toNat w (by omega)
    rw [Int.toNat_of_nonneg (by omega)] at h1
    exact h1
theorem la_xor (k : K8) (p : Int) (A : Option Addr) (l : List UInt8) (cb : Nat) (X : List UInt8) (hX : Hid (X = xorL (streamL k p l.length) l)) (hl : l.length ≤ 200) (w : World) (hB : Bts w A l) : Calls Try.prog 48 #[.agg #[.int .u32 (W k.k0), .int .u32 (W k.k1), .int .u32 (W k.k2), .int .u32 (W k.k3), .int .u32 (W k.k4), .int .u32 (W k.k5), .int .u32 (W k.k6), .int .u32 (W k.k7)], .int .i64 p, .slice A l.length cb] w fun e w' => ∃ A' c, e = .returned (.slice A' X.length c) ∧ Bts w' A' X ∧ Below w.heap.size w w' := by
  refine (xor_any k p A l cb w (by omega) hB).mono ?_
  rintro e w' ⟨A', c, r, hr, rfl, ho, hb⟩
  obtain rfl : X = r := by rw [hX.out, hr.out]
  exact ⟨A', c, rfl, ho.bts, hb⟩
theorem la_rxor (k : K8) (p : Int) (l : List UInt8) (X : List UInt8) (hX : Hid (X = xorL (streamL k p l.length) l)) (hl : l.length ≤ 200) (w : World) : Calls Try.prog 49 #[.agg #[.int .u32 (W k.k0), .int .u32 (W k.k1), .int .u32 (W k.k2), .int .u32 (W k.k3), .int .u32 (W k.k4), .int .u32 (W k.k5), .int .u32 (W k.k6), .int .u32 (W k.k7)], .int .i64 p, .string (mkStr l)] w fun e w' => e = .returned (.string (mkStr X)) ∧ Below w.heap.size w w' := by
  obtain rfl := hX.out
  exact rxor_any k p l w (by omega)
theorem la_rmix (k M : K8) (hM : Hid (M = mix k)) (w : World) : Calls Try.prog 45 #[.agg #[.int .u32 (W k.k0), .int .u32 (W k.k1), .int .u32 (W k.k2), .int .u32 (W k.k3), .int .u32 (W k.k4), .int .u32 (W k.k5), .int .u32 (W k.k6), .int .u32 (W k.k7)]] w fun e w' => e = .returned (.agg #[.int .u32 (W M.k0), .int .u32 (W M.k1), .int .u32 (W M.k2), .int .u32 (W M.k3), .int .u32 (W M.k4), .int .u32 (W M.k5), .int .u32 (W M.k6), .int .u32 (W M.k7)]) ∧ Below w.heap.size w w' := by
  obtain rfl := hM.out
  exact rmix_any k w
theorem la_mix (k M : K8) (hM : Hid (M = mix k)) (w : World) : Calls Try.prog 41 #[.agg #[.int .u32 (W k.k0), .int .u32 (W k.k1), .int .u32 (W k.k2), .int .u32 (W k.k3), .int .u32 (W k.k4), .int .u32 (W k.k5), .int .u32 (W k.k6), .int .u32 (W k.k7)]] w fun e w' => e = .returned (.agg #[.int .u32 (W M.k0), .int .u32 (W M.k1), .int .u32 (W M.k2), .int .u32 (W M.k3), .int .u32 (W M.k4), .int .u32 (W M.k5), .int .u32 (W M.k6), .int .u32 (W M.k7)]) ∧ Below w.heap.size w w' := by
  obtain rfl := hM.out
  exact mix_any k w
theorem min300 (n : Int) : ∃ m, Hid (m = (if n < 300 then n else 300)) ∧ m ≤ 300 := ⟨_, rfl, by split <;> omega⟩
attribute [local go_sem ↓] run_str'
set_option maxRecDepth 20000 in
set_option maxHeartbeats 8000000 in
theorem walk_LaneAsks (k : K8) (p n : Int) (A : Option Addr) (l : List UInt8) (c : Nat) (w : World) (_hp : -9223372036854775808 ≤ p ∧ p < 9223372036854775808) (_hn : -9223372036854775808 ≤ n ∧ n < 9223372036854775808) (hB : Bts w A l) (_hl : l.length ≤ c) (_hc : c ≤ maxLen) :
    Calls Try.prog 16 #[.agg k.vals.toArray, .int .i64 p, .int .i64 n, .slice A l.length c] w fun e w' => e = .returned (.bool true) ∧ Below w.heap.size w w' := by
  have hb0 : Below w.heap.size w (w.alloc (.cells k.vals.toArray 23)) := (Below.refl _ _).alloc (Nat.le_refl _) _
  by_cases h200 : 200 < l.length
  · unfold K8.vals at *
    go_enter Try.func16, Try.ntmps16
    go_wp2_with fail
    refine (told14 _).mono ?_
    rintro e w1 ⟨rfl, hb1⟩
    go_wp2
    go_ret
    exact ⟨rfl, hb0.trans (hb1.mono (by simp))⟩
  · have hl2 : l.length ≤ 200 := by omega
    unfold K8.vals at *
    go_enter Try.func16, Try.ntmps16
    have hk0 := Holds.new w 23 k.vals
    obtain ⟨X, hX⟩ : ∃ X, Hid (X = xorL (streamL k p l.length) l) := ⟨_, rfl⟩
    obtain ⟨M, hM⟩ : ∃ M, Hid (M = mix k) := ⟨_, rfl⟩
    rcases (show n ≤ 300 ∨ 300 < n by omega) with h300 | h300
    · obtain ⟨R, hR⟩ : ∃ R, Hid (R = streamI k p (n)) := ⟨_, rfl⟩
      go_wp2_with fail
      refine (quarter_any _ _ _ _ _).mono ?_
      rintro e w1 ⟨rfl, rfl⟩
      go_wp2_with fail
      refine (rquarter_any _ _ _ _ _).mono ?_
      rintro e w1 ⟨rfl, rfl⟩
      generalize qtr k.k0 k.k1 k.k2 k.k3 = P at *
      obtain ⟨p0, p1, p2, p3⟩ := P
      dsimp only
      go_wp2_with fail
      refine (la_mix k M hM _).mono ?_
      rintro e w1 ⟨rfl, hb1⟩
      have hk1 := hk0.below hb1 (by simp)
      have hk8 := hk1.eight
      have hk9 := (hk1.alloc (.cells #[.int .u32 (W M.k0), .int .u32 (W M.k1), .int .u32 (W M.k2), .int .u32 (W M.k3), .int .u32 (W M.k4), .int .u32 (W M.k5), .int .u32 (W M.k6), .int .u32 (W M.k7)] 28)).eight
      have hs1 := hb1.size
      simp at hs1
      have hne1 : w.heap.size ≠ w1.heap.size := by omega
      have hne2 : w1.heap.size ≠ w.heap.size := by omega
      go_wp2_with fail
      refine (la_rmix k M hM _).mono ?_
      rintro e w2 ⟨rfl, hb2⟩
      have hs2 := hb2.size
      simp at hs2
      have hM2 := (((Holds.newAt w1 28 [.int .u32 (W M.k0), .int .u32 (W M.k1), .int .u32 (W M.k2), .int .u32 (W M.k3), .int .u32 (W M.k4), .int .u32 (W M.k5), .int .u32 (W M.k6), .int .u32 (W M.k7)] (n := w1.heap.size) rfl).below hb2 (by simp)).alloc (.cells #[.int .u32 (W M.k0), .int .u32 (W M.k1), .int .u32 (W M.k2), .int .u32 (W M.k3), .int .u32 (W M.k4), .int .u32 (W M.k5), .int .u32 (W M.k6), .int .u32 (W M.k7)] 32)).eight
      have hN2 := (Holds.newAt w2 32 [.int .u32 (W M.k0), .int .u32 (W M.k1), .int .u32 (W M.k2), .int .u32 (W M.k3), .int .u32 (W M.k4), .int .u32 (W M.k5), .int .u32 (W M.k6), .int .u32 (W M.k7)] (n := w2.heap.size) rfl).eight
      have hk2 := ((hk1.alloc (.cells #[.int .u32 (W M.k0), .int .u32 (W M.k1), .int .u32 (W M.k2), .int .u32 (W M.k3), .int .u32 (W M.k4), .int .u32 (W M.k5), .int .u32 (W M.k6), .int .u32 (W M.k7)] 28)).below hb2 (by simp; omega)).alloc (.cells #[.int .u32 (W M.k0), .int .u32 (W M.k1), .int .u32 (W M.k2), .int .u32 (W M.k3), .int .u32 (W M.k4), .int .u32 (W M.k5), .int .u32 (W M.k6), .int .u32 (W M.k7)] 32)
      have hb3 : Below w.heap.size w (w2.alloc (.cells #[.int .u32 (W M.k0), .int .u32 (W M.k1), .int .u32 (W M.k2), .int .u32 (W M.k3), .int .u32 (W M.k4), .int .u32 (W M.k5), .int .u32 (W M.k6), .int .u32 (W M.k7)] 32)) := ((hb0.trans (hb1.mono (by simp))).trans ((Below.refl _ _).alloc (by omega) _)).trans (hb2.mono (by simp; omega)) |>.alloc (by omega) _
      have hB3 : Bts (w2.alloc (.cells #[.int .u32 (W M.k0), .int .u32 (W M.k1), .int .u32 (W M.k2), .int .u32 (W M.k3), .int .u32 (W M.k4), .int .u32 (W M.k5), .int .u32 (W M.k6), .int .u32 (W M.k7)] 32)) A l := hB.below hb3
      have hs3 : w.heap.size ≤ (w2.alloc (.cells #[.int .u32 (W M.k0), .int .u32 (W M.k1), .int .u32 (W M.k2), .int .u32 (W M.k3), .int .u32 (W M.k4), .int .u32 (W M.k5), .int .u32 (W M.k6), .int .u32 (W M.k7)] 32)).heap.size := by simp; omega
      have HS := Lib.hid (env9_start (w0 := w) (A := A) (l := l) hk2 ⟨hb3, hs3, hB3⟩)
      clear hk8 hk9 hne1 hne2 hB hk1 hk0 hk2 hB3 hs3 hb3 hb2 hb1 hs2 hs1 hb0 hM
      go_wp2_with fail
      generalize w2.alloc (.cells #[.int .u32 (W M.k0), .int .u32 (W M.k1), .int .u32 (W M.k2), .int .u32 (W M.k3), .int .u32 (W M.k4), .int .u32 (W M.k5), .int .u32 (W M.k6), .int .u32 (W M.k7)] 32) = w3 at *
      generalize hg1 : w1.heap.size = g1 at *
      generalize hg2 : w2.heap.size = g2 at *
      refine wp_loop_rounds 9 ?_
      iterate 8 (
        rw [rounds_succ]
        go_wp2_with fail
        go_region
        go_wp2_with fail)
      rw [rounds_succ]
      go_wp2_with fail
      clear hM2 hN2
      refine wp_region_till 47 (fun w' => w'.cell? ⟨w.heap.size, 0, none⟩ = some (.int .u32 (W k.k0)) ∧ w'.cell? ⟨w.heap.size, 1, none⟩ = some (.int .u32 (W k.k1)) ∧ w'.cell? ⟨w.heap.size, 2, none⟩ = some (.int .u32 (W k.k2)) ∧ w'.cell? ⟨w.heap.size, 3, none⟩ = some (.int .u32 (W k.k3)) ∧ w'.cell? ⟨w.heap.size, 4, none⟩ = some (.int .u32 (W k.k4)) ∧ w'.cell? ⟨w.heap.size, 5, none⟩ = some (.int .u32 (W k.k5)) ∧ w'.cell? ⟨w.heap.size, 6, none⟩ = some (.int .u32 (W k.k6)) ∧ w'.cell? ⟨w.heap.size, 7, none⟩ = some (.int .u32 (W k.k7)) ∧ Bts w' A l ∧ Kp w A l w') (fun _ => True) (by kernel_rfl) (env9_keep HS.out (by repeat (first | exact Below.refl _ _ | refine Below.drew ?_))) trivial ?_
      show Go_ _ _ _ _ _ _ _ _ _ _ (World.drew _)
      refine Go_.step (i := 0) (o := ⟨some 70, Op.call { callee := Callee.value (Operand.func 43), args := #[], argTypes := #[] }, 4, _, _, none⟩) (by kernel_rfl) rfl (fun K hT hK => ?_)
      replace hT := hT.1
      rw [if_pos (by rfl)]
      go_simp
      refine (told14 _).mono ?_
      rintro e w' ⟨rfl, hbx⟩
      refine hK.out _ _ (Till.of (env9_keep hT hbx)) ?_
      clear hT hK K
      refine Go_.take (i := 1) (oi := ⟨some 71, Op.move (Operand.tmp 70), 4, _, _, none⟩) (v := ?_) rfl (by kernel_rfl) (by kernel_rfl) (by kernel_rfl) rfl (fun _ _ _ h => h) (Or.inl ⟨by rfl, ?_⟩) ?_
      rotate_left; · intro w0 _; go_simp; try with_reducible rfl
      try simp only [Act.put, List.setIfInBounds_toArray, List.set_cons_zero, List.set_cons_succ]
      refine Go_.take (i := 2) (oi := ⟨some 72, Op.move (Operand.tmp 10), 22, _, _, some (1, true)⟩) (v := ?_) rfl (by kernel_rfl) (by kernel_rfl) (by kernel_rfl) rfl (fun _ _ _ h => h) (Or.inl ⟨by rfl, ?_⟩) ?_
      rotate_left; · intro w0 _; go_simp; try with_reducible rfl
      try simp only [Act.put, List.setIfInBounds_toArray, List.set_cons_zero, List.set_cons_succ]
      refine Go_.take (i := 3) (oi := ⟨some 73, Op.move (Operand.tmp 14), 22, _, _, some (1, true)⟩) (v := ?_) rfl (by kernel_rfl) (by kernel_rfl) (by kernel_rfl) rfl (fun _ _ _ h => h) (Or.inl ⟨by rfl, ?_⟩) ?_
      rotate_left; · intro w0 _; go_simp; try with_reducible rfl
      try simp only [Act.put, List.setIfInBounds_toArray, List.set_cons_zero, List.set_cons_succ]
      refine Go_.take (i := 4) (oi := ⟨some 74, Op.binOp BinOp.eql 22 (Operand.tmp 72) (Operand.tmp 73) 22, 4, _, _, some (1, true)⟩) (v := ?_) rfl (by kernel_rfl) (by kernel_rfl) (by kernel_rfl) rfl (fun _ _ _ h => h) (Or.inl ⟨by rfl, ?_⟩) ?_
      rotate_left; · intro w0 _; go_simp; try with_reducible rfl
      try simp only [Act.put, List.setIfInBounds_toArray, List.set_cons_zero, List.set_cons_succ]
      refine Go_.take (i := 5) (oi := ⟨some 75, Op.pick (Operand.tmp 71) (Operand.tmp 74) (Operand.const (Value.bool false)), 4, _, _, none⟩) (v := ?_) rfl (by kernel_rfl) (by kernel_rfl) (by kernel_rfl) rfl (fun _ _ _ h => h) (Or.inl ⟨by rfl, ?_⟩) ?_
      rotate_left; · intro w0 _; go_simp; try with_reducible rfl
      try simp only [Act.put, List.setIfInBounds_toArray, List.set_cons_zero, List.set_cons_succ]
      refine Go_.take (i := 6) (oi := ⟨some 76, Op.move (Operand.tmp 75), 4, _, _, none⟩) (v := ?_) rfl (by kernel_rfl) (by kernel_rfl) (by kernel_rfl) rfl (fun _ _ _ h => h) (Or.inl ⟨by rfl, ?_⟩) ?_
      rotate_left; · intro w0 _; go_simp; try with_reducible rfl
      try simp only [Act.put, List.setIfInBounds_toArray, List.set_cons_zero, List.set_cons_succ]
      refine Go_.take (i := 7) (oi := ⟨some 77, Op.move (Operand.tmp 11), 22, _, _, some (6, true)⟩) (v := ?_) rfl (by kernel_rfl) (by kernel_rfl) (by kernel_rfl) rfl (fun _ _ _ h => h) (Or.inl ⟨by rfl, ?_⟩) ?_
      rotate_left; · intro w0 _; go_simp; try with_reducible rfl
      try simp only [Act.put, List.setIfInBounds_toArray, List.set_cons_zero, List.set_cons_succ]
      refine Go_.take (i := 8) (oi := ⟨some 78, Op.move (Operand.tmp 15), 22, _, _, some (6, true)⟩) (v := ?_) rfl (by kernel_rfl) (by kernel_rfl) (by kernel_rfl) rfl (fun _ _ _ h => h) (Or.inl ⟨by rfl, ?_⟩) ?_
      rotate_left; · intro w0 _; go_simp; try with_reducible rfl
      try simp only [Act.put, List.setIfInBounds_toArray, List.set_cons_zero, List.set_cons_succ]
      refine Go_.take (i := 9) (oi := ⟨some 79, Op.binOp BinOp.eql 22 (Operand.tmp 77) (Operand.tmp 78) 22, 4, _, _, some (6, true)⟩) (v := ?_) rfl (by kernel_rfl) (by kernel_rfl) (by kernel_rfl) rfl (fun _ _ _ h => h) (Or.inl ⟨by rfl, ?_⟩) ?_
      rotate_left; · intro w0 _; go_simp; try with_reducible rfl
      try simp only [Act.put, List.setIfInBounds_toArray, List.set_cons_zero, List.set_cons_succ]
      refine Go_.take (i := 10) (oi := ⟨some 80, Op.pick (Operand.tmp 76) (Operand.tmp 79) (Operand.const (Value.bool false)), 4, _, _, none⟩) (v := ?_) rfl (by kernel_rfl) (by kernel_rfl) (by kernel_rfl) rfl (fun _ _ _ h => h) (Or.inl ⟨by rfl, ?_⟩) ?_
      rotate_left; · intro w0 _; go_simp; try with_reducible rfl
      try simp only [Act.put, List.setIfInBounds_toArray, List.set_cons_zero, List.set_cons_succ]
      refine Go_.take (i := 11) (oi := ⟨some 81, Op.move (Operand.tmp 80), 4, _, _, none⟩) (v := ?_) rfl (by kernel_rfl) (by kernel_rfl) (by kernel_rfl) rfl (fun _ _ _ h => h) (Or.inl ⟨by rfl, ?_⟩) ?_
      rotate_left; · intro w0 _; go_simp; try with_reducible rfl
      try simp only [Act.put, List.setIfInBounds_toArray, List.set_cons_zero, List.set_cons_succ]
      refine Go_.take (i := 12) (oi := ⟨some 82, Op.move (Operand.tmp 12), 22, _, _, some (11, true)⟩) (v := ?_) rfl (by kernel_rfl) (by kernel_rfl) (by kernel_rfl) rfl (fun _ _ _ h => h) (Or.inl ⟨by rfl, ?_⟩) ?_
      rotate_left; · intro w0 _; go_simp; try with_reducible rfl
      try simp only [Act.put, List.setIfInBounds_toArray, List.set_cons_zero, List.set_cons_succ]
      refine Go_.take (i := 13) (oi := ⟨some 83, Op.move (Operand.tmp 16), 22, _, _, some (11, true)⟩) (v := ?_) rfl (by kernel_rfl) (by kernel_rfl) (by kernel_rfl) rfl (fun _ _ _ h => h) (Or.inl ⟨by rfl, ?_⟩) ?_
      rotate_left; · intro w0 _; go_simp; try with_reducible rfl
      try simp only [Act.put, List.setIfInBounds_toArray, List.set_cons_zero, List.set_cons_succ]
      refine Go_.take (i := 14) (oi := ⟨some 84, Op.binOp BinOp.eql 22 (Operand.tmp 82) (Operand.tmp 83) 22, 4, _, _, some (11, true)⟩) (v := ?_) rfl (by kernel_rfl) (by kernel_rfl) (by kernel_rfl) rfl (fun _ _ _ h => h) (Or.inl ⟨by rfl, ?_⟩) ?_
      rotate_left; · intro w0 _; go_simp; try with_reducible rfl
      try simp only [Act.put, List.setIfInBounds_toArray, List.set_cons_zero, List.set_cons_succ]
      refine Go_.take (i := 15) (oi := ⟨some 85, Op.pick (Operand.tmp 81) (Operand.tmp 84) (Operand.const (Value.bool false)), 4, _, _, none⟩) (v := ?_) rfl (by kernel_rfl) (by kernel_rfl) (by kernel_rfl) rfl (fun _ _ _ h => h) (Or.inl ⟨by rfl, ?_⟩) ?_
      rotate_left; · intro w0 _; go_simp; try with_reducible rfl
      try simp only [Act.put, List.setIfInBounds_toArray, List.set_cons_zero, List.set_cons_succ]
      refine Go_.take (i := 16) (oi := ⟨some 86, Op.move (Operand.tmp 85), 4, _, _, none⟩) (v := ?_) rfl (by kernel_rfl) (by kernel_rfl) (by kernel_rfl) rfl (fun _ _ _ h => h) (Or.inl ⟨by rfl, ?_⟩) ?_
      rotate_left; · intro w0 _; go_simp; try with_reducible rfl
      try simp only [Act.put, List.setIfInBounds_toArray, List.set_cons_zero, List.set_cons_succ]
      refine Go_.take (i := 17) (oi := ⟨some 87, Op.move (Operand.tmp 13), 22, _, _, some (16, true)⟩) (v := ?_) rfl (by kernel_rfl) (by kernel_rfl) (by kernel_rfl) rfl (fun _ _ _ h => h) (Or.inl ⟨by rfl, ?_⟩) ?_
      rotate_left; · intro w0 _; go_simp; try with_reducible rfl
      try simp only [Act.put, List.setIfInBounds_toArray, List.set_cons_zero, List.set_cons_succ]
      refine Go_.take (i := 18) (oi := ⟨some 88, Op.move (Operand.tmp 17), 22, _, _, some (16, true)⟩) (v := ?_) rfl (by kernel_rfl) (by kernel_rfl) (by kernel_rfl) rfl (fun _ _ _ h => h) (Or.inl ⟨by rfl, ?_⟩) ?_
      rotate_left; · intro w0 _; go_simp; try with_reducible rfl
      try simp only [Act.put, List.setIfInBounds_toArray, List.set_cons_zero, List.set_cons_succ]
      refine Go_.take (i := 19) (oi := ⟨some 89, Op.binOp BinOp.eql 22 (Operand.tmp 87) (Operand.tmp 88) 22, 4, _, _, some (16, true)⟩) (v := ?_) rfl (by kernel_rfl) (by kernel_rfl) (by kernel_rfl) rfl (fun _ _ _ h => h) (Or.inl ⟨by rfl, ?_⟩) ?_
      rotate_left; · intro w0 _; go_simp; try with_reducible rfl
      try simp only [Act.put, List.setIfInBounds_toArray, List.set_cons_zero, List.set_cons_succ]
      refine Go_.take (i := 20) (oi := ⟨some 90, Op.pick (Operand.tmp 86) (Operand.tmp 89) (Operand.const (Value.bool false)), 4, _, _, none⟩) (v := ?_) rfl (by kernel_rfl) (by kernel_rfl) (by kernel_rfl) rfl (fun _ _ _ h => h) (Or.inl ⟨by rfl, ?_⟩) ?_
      rotate_left; · intro w0 _; go_simp; try with_reducible rfl
      try simp only [Act.put, List.setIfInBounds_toArray, List.set_cons_zero, List.set_cons_succ]
      refine Go_.take (i := 21) (oi := ⟨some 91, Op.move (Operand.tmp 90), 4, _, _, none⟩) (v := ?_) rfl (by kernel_rfl) (by kernel_rfl) (by kernel_rfl) rfl (fun _ _ _ h => h) (Or.inl ⟨by rfl, ?_⟩) ?_
      rotate_left; · intro w0 _; go_simp; try with_reducible rfl
      try simp only [Act.put, List.setIfInBounds_toArray, List.set_cons_zero, List.set_cons_succ]
      refine Go_.take (i := 22) (oi := ⟨some 92, Op.load 23 (Operand.tmp 4), 23, _, _, some (21, true)⟩) (v := ?_) rfl (by kernel_rfl) (by kernel_rfl) (by kernel_rfl) rfl (fun _ _ _ h => h) (Or.inl ⟨by rfl, ?_⟩) ?_
      rotate_left; · intro w0 hS; obtain ⟨c0, c1, c2, c3, c4, c5, c6, c7, cB, cK⟩ := hS; go_simp; try with_reducible rfl
      try simp only [Act.put, List.setIfInBounds_toArray, List.set_cons_zero, List.set_cons_succ]
      refine Go_.take (i := 23) (oi := ⟨some 93, Op.move (Operand.tmp 1), 3, _, _, some (21, true)⟩) (v := ?_) rfl (by kernel_rfl) (by kernel_rfl) (by kernel_rfl) rfl (fun _ _ _ h => h) (Or.inl ⟨by rfl, ?_⟩) ?_
      rotate_left; · intro w0 _; go_simp; try with_reducible rfl
      try simp only [Act.put, List.setIfInBounds_toArray, List.set_cons_zero, List.set_cons_succ]
      refine Go_.take (i := 24) (oi := ⟨some 94, Op.move (Operand.tmp 9), 3, _, _, some (21, true)⟩) (v := ?_) rfl (by kernel_rfl) (by kernel_rfl) (by kernel_rfl) rfl (fun _ _ _ h => h) (Or.inl ⟨by rfl, ?_⟩) ?_
      rotate_left; · intro w0 _; go_simp; try with_reducible rfl
      try simp only [Act.put, List.setIfInBounds_toArray, List.set_cons_zero, List.set_cons_succ]
      refine Go_.take (i := 27) (oi := ⟨some 97, Op.load 23 (Operand.tmp 4), 23, _, _, some (21, true)⟩) (v := ?_) rfl (by kernel_rfl) (by kernel_rfl) (by kernel_rfl) rfl (fun _ _ _ h => h) (Or.inl ⟨by rfl, ?_⟩) ?_
      rotate_left; · intro w0 hS; obtain ⟨c0, c1, c2, c3, c4, c5, c6, c7, cB, cK⟩ := hS; go_simp; try with_reducible rfl
      try simp only [Act.put, List.setIfInBounds_toArray, List.set_cons_zero, List.set_cons_succ]
      refine Go_.take (i := 28) (oi := ⟨some 98, Op.move (Operand.tmp 1), 3, _, _, some (21, true)⟩) (v := ?_) rfl (by kernel_rfl) (by kernel_rfl) (by kernel_rfl) rfl (fun _ _ _ h => h) (Or.inl ⟨by rfl, ?_⟩) ?_
      rotate_left; · intro w0 _; go_simp; try with_reducible rfl
      try simp only [Act.put, List.setIfInBounds_toArray, List.set_cons_zero, List.set_cons_succ]
      refine Go_.take (i := 29) (oi := ⟨some 99, Op.move (Operand.tmp 9), 3, _, _, some (21, true)⟩) (v := ?_) rfl (by kernel_rfl) (by kernel_rfl) (by kernel_rfl) rfl (fun _ _ _ h => h) (Or.inl ⟨by rfl, ?_⟩) ?_
      rotate_left; · intro w0 _; go_simp; try with_reducible rfl
      try simp only [Act.put, List.setIfInBounds_toArray, List.set_cons_zero, List.set_cons_succ]
      refine Go_.step (i := 25) (o := ⟨some 95, Op.call { callee := Callee.value (Operand.func 46), args := #[Operand.tmp 92, Operand.tmp 93, Operand.tmp 94], argTypes := #[28, 3, 3] }, 24, _, _, some (21, true)⟩) (by kernel_rfl) rfl (fun K hT hK => ?_)
      replace hT := hT.1
      rw [if_pos (by rfl)]
      go_simp
      refine (la_stream k p n (by omega) R hR _).mono ?_
      rintro e w' ⟨A25, c25, rfl, hB25, hbx⟩
      refine hK.out _ _ (Till.of (env9_keep hT hbx)) ?_
      clear hT hK K
      refine Go_.raise (C := fun w0 => Bts w0 A25 R) hB25 ?_
      refine Go_.take (i := 26) (oi := ⟨some 96, Op.convert 24 9 (Operand.tmp 95), 9, _, _, some (21, true)⟩) (v := ?_) rfl (by kernel_rfl) (by kernel_rfl) (by kernel_rfl) rfl (fun _ _ _ h => h) (Or.inl ⟨by rfl, ?_⟩) ?_
      rotate_left; · intro w0 hS; obtain ⟨⟨c0, c1, c2, c3, c4, c5, c6, c7, cB, cK⟩, cB25⟩ := hS; go_simp; try with_reducible rfl
      try simp only [Act.put, List.setIfInBounds_toArray, List.set_cons_zero, List.set_cons_succ]
      refine Go_.step (i := 30) (o := ⟨some 100, Op.call { callee := Callee.value (Operand.func 47), args := #[Operand.tmp 97, Operand.tmp 98, Operand.tmp 99], argTypes := #[32, 3, 3] }, 9, _, _, some (21, true)⟩) (by kernel_rfl) rfl (fun K hT hK => ?_)
      replace hT := hT.1
      rw [if_pos (by rfl)]
      go_simp
      refine (la_rstream k p n (by omega) R hR _).mono ?_
      rintro e w' ⟨rfl, hbx⟩
      refine hK.out _ _ (Till.of ⟨env9_keep hT.1 hbx, hT.2.below hbx⟩) ?_
      clear hT hK K
      refine Go_.take (i := 31) (oi := ⟨some 101, Op.binOp BinOp.eql 9 (Operand.tmp 96) (Operand.tmp 100) 9, 4, _, _, some (21, true)⟩) (v := ?_) rfl (by kernel_rfl) (by kernel_rfl) (by kernel_rfl) rfl (fun _ _ _ h => h) (Or.inl ⟨by rfl, ?_⟩) ?_
      rotate_left; · intro w0 _; go_simp; try with_reducible rfl
      try simp only [Act.put, List.setIfInBounds_toArray, List.set_cons_zero, List.set_cons_succ]
      refine Go_.take (i := 32) (oi := ⟨some 102, Op.pick (Operand.tmp 91) (Operand.tmp 101) (Operand.const (Value.bool false)), 4, _, _, none⟩) (v := ?_) rfl (by kernel_rfl) (by kernel_rfl) (by kernel_rfl) rfl (fun _ _ _ h => h) (Or.inl ⟨by rfl, ?_⟩) ?_
      rotate_left; · intro w0 _; go_simp; try with_reducible rfl
      try simp only [Act.put, List.setIfInBounds_toArray, List.set_cons_zero, List.set_cons_succ]
      refine Go_.take (i := 33) (oi := ⟨some 103, Op.move (Operand.tmp 102), 4, _, _, none⟩) (v := ?_) rfl (by kernel_rfl) (by kernel_rfl) (by kernel_rfl) rfl (fun _ _ _ h => h) (Or.inl ⟨by rfl, ?_⟩) ?_
      rotate_left; · intro w0 _; go_simp; try with_reducible rfl
      try simp only [Act.put, List.setIfInBounds_toArray, List.set_cons_zero, List.set_cons_succ]
      refine Go_.take (i := 34) (oi := ⟨some 104, Op.load 23 (Operand.tmp 4), 23, _, _, some (33, true)⟩) (v := ?_) rfl (by kernel_rfl) (by kernel_rfl) (by kernel_rfl) rfl (fun _ _ _ h => h) (Or.inl ⟨by rfl, ?_⟩) ?_
      rotate_left; · intro w0 hS; obtain ⟨⟨c0, c1, c2, c3, c4, c5, c6, c7, cB, cK⟩, cB25⟩ := hS; go_simp; try with_reducible rfl
      try simp only [Act.put, List.setIfInBounds_toArray, List.set_cons_zero, List.set_cons_succ]
      refine Go_.take (i := 35) (oi := ⟨some 105, Op.move (Operand.tmp 1), 3, _, _, some (33, true)⟩) (v := ?_) rfl (by kernel_rfl) (by kernel_rfl) (by kernel_rfl) rfl (fun _ _ _ h => h) (Or.inl ⟨by rfl, ?_⟩) ?_
      rotate_left; · intro w0 _; go_simp; try with_reducible rfl
      try simp only [Act.put, List.setIfInBounds_toArray, List.set_cons_zero, List.set_cons_succ]
      refine Go_.take (i := 36) (oi := ⟨some 106, Op.move (Operand.tmp 3), 24, _, _, some (33, true)⟩) (v := ?_) rfl (by kernel_rfl) (by kernel_rfl) (by kernel_rfl) rfl (fun _ _ _ h => h) (Or.inl ⟨by rfl, ?_⟩) ?_
      rotate_left; · intro w0 _; go_simp; try with_reducible rfl
      try simp only [Act.put, List.setIfInBounds_toArray, List.set_cons_zero, List.set_cons_succ]
      refine Go_.take (i := 39) (oi := ⟨some 109, Op.load 23 (Operand.tmp 4), 23, _, _, some (33, true)⟩) (v := ?_) rfl (by kernel_rfl) (by kernel_rfl) (by kernel_rfl) rfl (fun _ _ _ h => h) (Or.inl ⟨by rfl, ?_⟩) ?_
      rotate_left; · intro w0 hS; obtain ⟨⟨c0, c1, c2, c3, c4, c5, c6, c7, cB, cK⟩, cB25⟩ := hS; go_simp; try with_reducible rfl
      try simp only [Act.put, List.setIfInBounds_toArray, List.set_cons_zero, List.set_cons_succ]
      refine Go_.take (i := 40) (oi := ⟨some 110, Op.move (Operand.tmp 1), 3, _, _, some (33, true)⟩) (v := ?_) rfl (by kernel_rfl) (by kernel_rfl) (by kernel_rfl) rfl (fun _ _ _ h => h) (Or.inl ⟨by rfl, ?_⟩) ?_
      rotate_left; · intro w0 _; go_simp; try with_reducible rfl
      try simp only [Act.put, List.setIfInBounds_toArray, List.set_cons_zero, List.set_cons_succ]
      refine Go_.take (i := 41) (oi := ⟨some 111, Op.move (Operand.tmp 3), 24, _, _, some (33, true)⟩) (v := ?_) rfl (by kernel_rfl) (by kernel_rfl) (by kernel_rfl) rfl (fun _ _ _ h => h) (Or.inl ⟨by rfl, ?_⟩) ?_
      rotate_left; · intro w0 _; go_simp; try with_reducible rfl
      try simp only [Act.put, List.setIfInBounds_toArray, List.set_cons_zero, List.set_cons_succ]
      refine Go_.take (i := 42) (oi := ⟨some 112, Op.convert 24 9 (Operand.tmp 111), 9, _, _, some (33, true)⟩) (v := ?_) rfl (by kernel_rfl) (by kernel_rfl) (by kernel_rfl) rfl (fun _ _ _ h => h) (Or.inl ⟨by rfl, ?_⟩) ?_
      rotate_left; · intro w0 hS; obtain ⟨⟨c0, c1, c2, c3, c4, c5, c6, c7, cB, cK⟩, cB25⟩ := hS; go_simp; try with_reducible rfl
      try simp only [Act.put, List.setIfInBounds_toArray, List.set_cons_zero, List.set_cons_succ]
      refine Go_.step (i := 37) (o := ⟨some 107, Op.call { callee := Callee.value (Operand.func 48), args := #[Operand.tmp 104, Operand.tmp 105, Operand.tmp 106], argTypes := #[28, 3, 24] }, 24, _, _, some (33, true)⟩) (by kernel_rfl) rfl (fun K hT hK => ?_)
      replace hT := hT.1
      rw [if_pos (by rfl)]
      go_simp
      refine (la_xor k p A l c X hX hl2 _ (env9_kp hT.1).2.2).mono ?_
      rintro e w' ⟨A37, c37, rfl, hB37, hbx⟩
      refine hK.out _ _ (Till.of ⟨env9_keep hT.1 hbx, hT.2.below hbx⟩) ?_
      clear hT hK K
      refine Go_.raise (C := fun w0 => Bts w0 A37 X) hB37 ?_
      refine Go_.take (i := 38) (oi := ⟨some 108, Op.convert 24 9 (Operand.tmp 107), 9, _, _, some (33, true)⟩) (v := ?_) rfl (by kernel_rfl) (by kernel_rfl) (by kernel_rfl) rfl (fun _ _ _ h => h) (Or.inl ⟨by rfl, ?_⟩) ?_
      rotate_left; · intro w0 hS; obtain ⟨⟨⟨c0, c1, c2, c3, c4, c5, c6, c7, cB, cK⟩, cB25⟩, cB37⟩ := hS; go_simp; try with_reducible rfl
      try simp only [Act.put, List.setIfInBounds_toArray, List.set_cons_zero, List.set_cons_succ]
      refine Go_.step (i := 43) (o := ⟨some 113, Op.call { callee := Callee.value (Operand.func 49), args := #[Operand.tmp 109, Operand.tmp 110, Operand.tmp 112], argTypes := #[32, 3, 9] }, 9, _, _, some (33, true)⟩) (by kernel_rfl) rfl (fun K hT hK => ?_)
      replace hT := hT.1
      rw [if_pos (by rfl)]
      go_simp
      refine (la_rxor k p l X hX hl2 _).mono ?_
      rintro e w' ⟨rfl, hbx⟩
      have hfin := (env9_kp (env9_keep hT.1.1 hbx)).below
      refine hK.out _ _ (Till.of ⟨⟨env9_keep hT.1.1 hbx, hT.1.2.below hbx⟩, hT.2.below hbx⟩) ?_
      clear hT hK K
      refine Go_.take (i := 44) (oi := ⟨some 114, Op.binOp BinOp.eql 9 (Operand.tmp 108) (Operand.tmp 113) 9, 4, _, _, some (33, true)⟩) (v := ?_) rfl (by kernel_rfl) (by kernel_rfl) (by kernel_rfl) rfl (fun _ _ _ h => h) (Or.inl ⟨by rfl, ?_⟩) ?_
      rotate_left; · intro w0 _; go_simp; try with_reducible rfl
      try simp only [Act.put, List.setIfInBounds_toArray, List.set_cons_zero, List.set_cons_succ]
      refine Go_.take (i := 45) (oi := ⟨some 115, Op.pick (Operand.tmp 103) (Operand.tmp 114) (Operand.const (Value.bool false)), 4, _, _, none⟩) (v := ?_) rfl (by kernel_rfl) (by kernel_rfl) (by kernel_rfl) rfl (fun _ _ _ h => h) (Or.inl ⟨by rfl, ?_⟩) ?_
      rotate_left; · intro w0 _; go_simp; try with_reducible rfl
      try simp only [Act.put, List.setIfInBounds_toArray, List.set_cons_zero, List.set_cons_succ]
      refine Go_.take (i := 46) (oi := ⟨some 8, Op.assign (Operand.tmp 115), 4, _, _, none⟩) (v := ?_) rfl (by kernel_rfl) (by kernel_rfl) (by kernel_rfl) rfl (fun _ _ _ h => h) (Or.inl ⟨by rfl, ?_⟩) ?_
      rotate_left; · intro w0 _; go_simp; try with_reducible rfl
      try simp only [Act.put, List.setIfInBounds_toArray, List.set_cons_zero, List.set_cons_succ]
      refine Go_.done (by kernel_rfl) ?_
      go_wp2
      go_ret
      exact ⟨ret_bool3 (by simp), hfin⟩
    · obtain ⟨R, hR⟩ : ∃ R, Hid (R = streamI k p (300)) := ⟨_, rfl⟩
      go_wp2_with fail
      refine (quarter_any _ _ _ _ _).mono ?_
      rintro e w1 ⟨rfl, rfl⟩
      go_wp2_with fail
      refine (rquarter_any _ _ _ _ _).mono ?_
      rintro e w1 ⟨rfl, rfl⟩
      generalize qtr k.k0 k.k1 k.k2 k.k3 = P at *
      obtain ⟨p0, p1, p2, p3⟩ := P
      dsimp only
      go_wp2_with fail
      refine (la_mix k M hM _).mono ?_
      rintro e w1 ⟨rfl, hb1⟩
      have hk1 := hk0.below hb1 (by simp)
      have hk8 := hk1.eight
      have hk9 := (hk1.alloc (.cells #[.int .u32 (W M.k0), .int .u32 (W M.k1), .int .u32 (W M.k2), .int .u32 (W M.k3), .int .u32 (W M.k4), .int .u32 (W M.k5), .int .u32 (W M.k6), .int .u32 (W M.k7)] 28)).eight
      have hs1 := hb1.size
      simp at hs1
      have hne1 : w.heap.size ≠ w1.heap.size := by omega
      have hne2 : w1.heap.size ≠ w.heap.size := by omega
      go_wp2_with fail
      refine (la_rmix k M hM _).mono ?_
      rintro e w2 ⟨rfl, hb2⟩
      have hs2 := hb2.size
      simp at hs2
      have hM2 := (((Holds.newAt w1 28 [.int .u32 (W M.k0), .int .u32 (W M.k1), .int .u32 (W M.k2), .int .u32 (W M.k3), .int .u32 (W M.k4), .int .u32 (W M.k5), .int .u32 (W M.k6), .int .u32 (W M.k7)] (n := w1.heap.size) rfl).below hb2 (by simp)).alloc (.cells #[.int .u32 (W M.k0), .int .u32 (W M.k1), .int .u32 (W M.k2), .int .u32 (W M.k3), .int .u32 (W M.k4), .int .u32 (W M.k5), .int .u32 (W M.k6), .int .u32 (W M.k7)] 32)).eight
      have hN2 := (Holds.newAt w2 32 [.int .u32 (W M.k0), .int .u32 (W M.k1), .int .u32 (W M.k2), .int .u32 (W M.k3), .int .u32 (W M.k4), .int .u32 (W M.k5), .int .u32 (W M.k6), .int .u32 (W M.k7)] (n := w2.heap.size) rfl).eight
      have hk2 := ((hk1.alloc (.cells #[.int .u32 (W M.k0), .int .u32 (W M.k1), .int .u32 (W M.k2), .int .u32 (W M.k3), .int .u32 (W M.k4), .int .u32 (W M.k5), .int .u32 (W M.k6), .int .u32 (W M.k7)] 28)).below hb2 (by simp; omega)).alloc (.cells #[.int .u32 (W M.k0), .int .u32 (W M.k1), .int .u32 (W M.k2), .int .u32 (W M.k3), .int .u32 (W M.k4), .int .u32 (W M.k5), .int .u32 (W M.k6), .int .u32 (W M.k7)] 32)
      have hb3 : Below w.heap.size w (w2.alloc (.cells #[.int .u32 (W M.k0), .int .u32 (W M.k1), .int .u32 (W M.k2), .int .u32 (W M.k3), .int .u32 (W M.k4), .int .u32 (W M.k5), .int .u32 (W M.k6), .int .u32 (W M.k7)] 32)) := ((hb0.trans (hb1.mono (by simp))).trans ((Below.refl _ _).alloc (by omega) _)).trans (hb2.mono (by simp; omega)) |>.alloc (by omega) _
      have hB3 : Bts (w2.alloc (.cells #[.int .u32 (W M.k0), .int .u32 (W M.k1), .int .u32 (W M.k2), .int .u32 (W M.k3), .int .u32 (W M.k4), .int .u32 (W M.k5), .int .u32 (W M.k6), .int .u32 (W M.k7)] 32)) A l := hB.below hb3
      have hs3 : w.heap.size ≤ (w2.alloc (.cells #[.int .u32 (W M.k0), .int .u32 (W M.k1), .int .u32 (W M.k2), .int .u32 (W M.k3), .int .u32 (W M.k4), .int .u32 (W M.k5), .int .u32 (W M.k6), .int .u32 (W M.k7)] 32)).heap.size := by simp; omega
      have HS := Lib.hid (env9_start (w0 := w) (A := A) (l := l) hk2 ⟨hb3, hs3, hB3⟩)
      clear hk8 hk9 hne1 hne2 hB hk1 hk0 hk2 hB3 hs3 hb3 hb2 hb1 hs2 hs1 hb0 hM
      go_wp2_with fail
      generalize w2.alloc (.cells #[.int .u32 (W M.k0), .int .u32 (W M.k1), .int .u32 (W M.k2), .int .u32 (W M.k3), .int .u32 (W M.k4), .int .u32 (W M.k5), .int .u32 (W M.k6), .int .u32 (W M.k7)] 32) = w3 at *
      generalize hg1 : w1.heap.size = g1 at *
      generalize hg2 : w2.heap.size = g2 at *
      refine wp_loop_rounds 9 ?_
      iterate 8 (
        rw [rounds_succ]
        go_wp2_with fail
        go_region
        go_wp2_with fail)
      rw [rounds_succ]
      go_wp2_with fail
      clear hM2 hN2
      refine wp_region_till 47 (fun w' => w'.cell? ⟨w.heap.size, 0, none⟩ = some (.int .u32 (W k.k0)) ∧ w'.cell? ⟨w.heap.size, 1, none⟩ = some (.int .u32 (W k.k1)) ∧ w'.cell? ⟨w.heap.size, 2, none⟩ = some (.int .u32 (W k.k2)) ∧ w'.cell? ⟨w.heap.size, 3, none⟩ = some (.int .u32 (W k.k3)) ∧ w'.cell? ⟨w.heap.size, 4, none⟩ = some (.int .u32 (W k.k4)) ∧ w'.cell? ⟨w.heap.size, 5, none⟩ = some (.int .u32 (W k.k5)) ∧ w'.cell? ⟨w.heap.size, 6, none⟩ = some (.int .u32 (W k.k6)) ∧ w'.cell? ⟨w.heap.size, 7, none⟩ = some (.int .u32 (W k.k7)) ∧ Bts w' A l ∧ Kp w A l w') (fun _ => True) (by kernel_rfl) (env9_keep HS.out (by repeat (first | exact Below.refl _ _ | refine Below.drew ?_))) trivial ?_
      show Go_ _ _ _ _ _ _ _ _ _ _ (World.drew _)
      refine Go_.step (i := 0) (o := ⟨some 70, Op.call { callee := Callee.value (Operand.func 43), args := #[], argTypes := #[] }, 4, _, _, none⟩) (by kernel_rfl) rfl (fun K hT hK => ?_)
      replace hT := hT.1
      rw [if_pos (by rfl)]
      go_simp
      refine (told14 _).mono ?_
      rintro e w' ⟨rfl, hbx⟩
      refine hK.out _ _ (Till.of (env9_keep hT hbx)) ?_
      clear hT hK K
      refine Go_.take (i := 1) (oi := ⟨some 71, Op.move (Operand.tmp 70), 4, _, _, none⟩) (v := ?_) rfl (by kernel_rfl) (by kernel_rfl) (by kernel_rfl) rfl (fun _ _ _ h => h) (Or.inl ⟨by rfl, ?_⟩) ?_
      rotate_left; · intro w0 _; go_simp; try with_reducible rfl
      try simp only [Act.put, List.setIfInBounds_toArray, List.set_cons_zero, List.set_cons_succ]
      refine Go_.take (i := 2) (oi := ⟨some 72, Op.move (Operand.tmp 10), 22, _, _, some (1, true)⟩) (v := ?_) rfl (by kernel_rfl) (by kernel_rfl) (by kernel_rfl) rfl (fun _ _ _ h => h) (Or.inl ⟨by rfl, ?_⟩) ?_
      rotate_left; · intro w0 _; go_simp; try with_reducible rfl
      try simp only [Act.put, List.setIfInBounds_toArray, List.set_cons_zero, List.set_cons_succ]
      refine Go_.take (i := 3) (oi := ⟨some 73, Op.move (Operand.tmp 14), 22, _, _, some (1, true)⟩) (v := ?_) rfl (by kernel_rfl) (by kernel_rfl) (by kernel_rfl) rfl (fun _ _ _ h => h) (Or.inl ⟨by rfl, ?_⟩) ?_
      rotate_left; · intro w0 _; go_simp; try with_reducible rfl
      try simp only [Act.put, List.setIfInBounds_toArray, List.set_cons_zero, List.set_cons_succ]
      refine Go_.take (i := 4) (oi := ⟨some 74, Op.binOp BinOp.eql 22 (Operand.tmp 72) (Operand.tmp 73) 22, 4, _, _, some (1, true)⟩) (v := ?_) rfl (by kernel_rfl) (by kernel_rfl) (by kernel_rfl) rfl (fun _ _ _ h => h) (Or.inl ⟨by rfl, ?_⟩) ?_
      rotate_left; · intro w0 _; go_simp; try with_reducible rfl
      try simp only [Act.put, List.setIfInBounds_toArray, List.set_cons_zero, List.set_cons_succ]
      refine Go_.take (i := 5) (oi := ⟨some 75, Op.pick (Operand.tmp 71) (Operand.tmp 74) (Operand.const (Value.bool false)), 4, _, _, none⟩) (v := ?_) rfl (by kernel_rfl) (by kernel_rfl) (by kernel_rfl) rfl (fun _ _ _ h => h) (Or.inl ⟨by rfl, ?_⟩) ?_
      rotate_left; · intro w0 _; go_simp; try with_reducible rfl
      try simp only [Act.put, List.setIfInBounds_toArray, List.set_cons_zero, List.set_cons_succ]
      refine Go_.take (i := 6) (oi := ⟨some 76, Op.move (Operand.tmp 75), 4, _, _, none⟩) (v := ?_) rfl (by kernel_rfl) (by kernel_rfl) (by kernel_rfl) rfl (fun _ _ _ h => h) (Or.inl ⟨by rfl, ?_⟩) ?_
      rotate_left; · intro w0 _; go_simp; try with_reducible rfl
      try simp only [Act.put, List.setIfInBounds_toArray, List.set_cons_zero, List.set_cons_succ]
      refine Go_.take (i := 7) (oi := ⟨some 77, Op.move (Operand.tmp 11), 22, _, _, some (6, true)⟩) (v := ?_) rfl (by kernel_rfl) (by kernel_rfl) (by kernel_rfl) rfl (fun _ _ _ h => h) (Or.inl ⟨by rfl, ?_⟩) ?_
      rotate_left; · intro w0 _; go_simp; try with_reducible rfl
      try simp only [Act.put, List.setIfInBounds_toArray, List.set_cons_zero, List.set_cons_succ]
      refine Go_.take (i := 8) (oi := ⟨some 78, Op.move (Operand.tmp 15), 22, _, _, some (6, true)⟩) (v := ?_) rfl (by kernel_rfl) (by kernel_rfl) (by kernel_rfl) rfl (fun _ _ _ h => h) (Or.inl ⟨by rfl, ?_⟩) ?_
      rotate_left; · intro w0 _; go_simp; try with_reducible rfl
      try simp only [Act.put, List.setIfInBounds_toArray, List.set_cons_zero, List.set_cons_succ]
      refine Go_.take (i := 9) (oi := ⟨some 79, Op.binOp BinOp.eql 22 (Operand.tmp 77) (Operand.tmp 78) 22, 4, _, _, some (6, true)⟩) (v := ?_) rfl (by kernel_rfl) (by kernel_rfl) (by kernel_rfl) rfl (fun _ _ _ h => h) (Or.inl ⟨by rfl, ?_⟩) ?_
      rotate_left; · intro w0 _; go_simp; try with_reducible rfl
      try simp only [Act.put, List.setIfInBounds_toArray, List.set_cons_zero, List.set_cons_succ]
      refine Go_.take (i := 10) (oi := ⟨some 80, Op.pick (Operand.tmp 76) (Operand.tmp 79) (Operand.const (Value.bool false)), 4, _, _, none⟩) (v := ?_) rfl (by kernel_rfl) (by kernel_rfl) (by kernel_rfl) rfl (fun _ _ _ h => h) (Or.inl ⟨by rfl, ?_⟩) ?_
      rotate_left; · intro w0 _; go_simp; try with_reducible rfl
      try simp only [Act.put, List.setIfInBounds_toArray, List.set_cons_zero, List.set_cons_succ]
      refine Go_.take (i := 11) (oi := ⟨some 81, Op.move (Operand.tmp 80), 4, _, _, none⟩) (v := ?_) rfl (by kernel_rfl) (by kernel_rfl) (by kernel_rfl) rfl (fun _ _ _ h => h) (Or.inl ⟨by rfl, ?_⟩) ?_
      rotate_left; · intro w0 _; go_simp; try with_reducible rfl
      try simp only [Act.put, List.setIfInBounds_toArray, List.set_cons_zero, List.set_cons_succ]
      refine Go_.take (i := 12) (oi := ⟨some 82, Op.move (Operand.tmp 12), 22, _, _, some (11, true)⟩) (v := ?_) rfl (by kernel_rfl) (by kernel_rfl) (by kernel_rfl) rfl (fun _ _ _ h => h) (Or.inl ⟨by rfl, ?_⟩) ?_
      rotate_left; · intro w0 _; go_simp; try with_reducible rfl
      try simp only [Act.put, List.setIfInBounds_toArray, List.set_cons_zero, List.set_cons_succ]
      refine Go_.take (i := 13) (oi := ⟨some 83, Op.move (Operand.tmp 16), 22, _, _, some (11, true)⟩) (v := ?_) rfl (by kernel_rfl) (by kernel_rfl) (by kernel_rfl) rfl (fun _ _ _ h => h) (Or.inl ⟨by rfl, ?_⟩) ?_
      rotate_left; · intro w0 _; go_simp; try with_reducible rfl
      try simp only [Act.put, List.setIfInBounds_toArray, List.set_cons_zero, List.set_cons_succ]
      refine Go_.take (i := 14) (oi := ⟨some 84, Op.binOp BinOp.eql 22 (Operand.tmp 82) (Operand.tmp 83) 22, 4, _, _, some (11, true)⟩) (v := ?_) rfl (by kernel_rfl) (by kernel_rfl) (by kernel_rfl) rfl (fun _ _ _ h => h) (Or.inl ⟨by rfl, ?_⟩) ?_
      rotate_left; · intro w0 _; go_simp; try with_reducible rfl
      try simp only [Act.put, List.setIfInBounds_toArray, List.set_cons_zero, List.set_cons_succ]
      refine Go_.take (i := 15) (oi := ⟨some 85, Op.pick (Operand.tmp 81) (Operand.tmp 84) (Operand.const (Value.bool false)), 4, _, _, none⟩) (v := ?_) rfl (by kernel_rfl) (by kernel_rfl) (by kernel_rfl) rfl (fun _ _ _ h => h) (Or.inl ⟨by rfl, ?_⟩) ?_
      rotate_left; · intro w0 _; go_simp; try with_reducible rfl
      try simp only [Act.put, List.setIfInBounds_toArray, List.set_cons_zero, List.set_cons_succ]
      refine Go_.take (i := 16) (oi := ⟨some 86, Op.move (Operand.tmp 85), 4, _, _, none⟩) (v := ?_) rfl (by kernel_rfl) (by kernel_rfl) (by kernel_rfl) rfl (fun _ _ _ h => h) (Or.inl ⟨by rfl, ?_⟩) ?_
      rotate_left; · intro w0 _; go_simp; try with_reducible rfl
      try simp only [Act.put, List.setIfInBounds_toArray, List.set_cons_zero, List.set_cons_succ]
      refine Go_.take (i := 17) (oi := ⟨some 87, Op.move (Operand.tmp 13), 22, _, _, some (16, true)⟩) (v := ?_) rfl (by kernel_rfl) (by kernel_rfl) (by kernel_rfl) rfl (fun _ _ _ h => h) (Or.inl ⟨by rfl, ?_⟩) ?_
      rotate_left; · intro w0 _; go_simp; try with_reducible rfl
      try simp only [Act.put, List.setIfInBounds_toArray, List.set_cons_zero, List.set_cons_succ]
      refine Go_.take (i := 18) (oi := ⟨some 88, Op.move (Operand.tmp 17), 22, _, _, some (16, true)⟩) (v := ?_) rfl (by kernel_rfl) (by kernel_rfl) (by kernel_rfl) rfl (fun _ _ _ h => h) (Or.inl ⟨by rfl, ?_⟩) ?_
      rotate_left; · intro w0 _; go_simp; try with_reducible rfl
      try simp only [Act.put, List.setIfInBounds_toArray, List.set_cons_zero, List.set_cons_succ]
      refine Go_.take (i := 19) (oi := ⟨some 89, Op.binOp BinOp.eql 22 (Operand.tmp 87) (Operand.tmp 88) 22, 4, _, _, some (16, true)⟩) (v := ?_) rfl (by kernel_rfl) (by kernel_rfl) (by kernel_rfl) rfl (fun _ _ _ h => h) (Or.inl ⟨by rfl, ?_⟩) ?_
      rotate_left; · intro w0 _; go_simp; try with_reducible rfl
      try simp only [Act.put, List.setIfInBounds_toArray, List.set_cons_zero, List.set_cons_succ]
      refine Go_.take (i := 20) (oi := ⟨some 90, Op.pick (Operand.tmp 86) (Operand.tmp 89) (Operand.const (Value.bool false)), 4, _, _, none⟩) (v := ?_) rfl (by kernel_rfl) (by kernel_rfl) (by kernel_rfl) rfl (fun _ _ _ h => h) (Or.inl ⟨by rfl, ?_⟩) ?_
      rotate_left; · intro w0 _; go_simp; try with_reducible rfl
      try simp only [Act.put, List.setIfInBounds_toArray, List.set_cons_zero, List.set_cons_succ]
      refine Go_.take (i := 21) (oi := ⟨some 91, Op.move (Operand.tmp 90), 4, _, _, none⟩) (v := ?_) rfl (by kernel_rfl) (by kernel_rfl) (by kernel_rfl) rfl (fun _ _ _ h => h) (Or.inl ⟨by rfl, ?_⟩) ?_
      rotate_left; · intro w0 _; go_simp; try with_reducible rfl
      try simp only [Act.put, List.setIfInBounds_toArray, List.set_cons_zero, List.set_cons_succ]
      refine Go_.take (i := 22) (oi := ⟨some 92, Op.load 23 (Operand.tmp 4), 23, _, _, some (21, true)⟩) (v := ?_) rfl (by kernel_rfl) (by kernel_rfl) (by kernel_rfl) rfl (fun _ _ _ h => h) (Or.inl ⟨by rfl, ?_⟩) ?_
      rotate_left; · intro w0 hS; obtain ⟨c0, c1, c2, c3, c4, c5, c6, c7, cB, cK⟩ := hS; go_simp; try with_reducible rfl
      try simp only [Act.put, List.setIfInBounds_toArray, List.set_cons_zero, List.set_cons_succ]
      refine Go_.take (i := 23) (oi := ⟨some 93, Op.move (Operand.tmp 1), 3, _, _, some (21, true)⟩) (v := ?_) rfl (by kernel_rfl) (by kernel_rfl) (by kernel_rfl) rfl (fun _ _ _ h => h) (Or.inl ⟨by rfl, ?_⟩) ?_
      rotate_left; · intro w0 _; go_simp; try with_reducible rfl
      try simp only [Act.put, List.setIfInBounds_toArray, List.set_cons_zero, List.set_cons_succ]
      refine Go_.take (i := 24) (oi := ⟨some 94, Op.move (Operand.tmp 9), 3, _, _, some (21, true)⟩) (v := ?_) rfl (by kernel_rfl) (by kernel_rfl) (by kernel_rfl) rfl (fun _ _ _ h => h) (Or.inl ⟨by rfl, ?_⟩) ?_
      rotate_left; · intro w0 _; go_simp; try with_reducible rfl
      try simp only [Act.put, List.setIfInBounds_toArray, List.set_cons_zero, List.set_cons_succ]
      refine Go_.take (i := 27) (oi := ⟨some 97, Op.load 23 (Operand.tmp 4), 23, _, _, some (21, true)⟩) (v := ?_) rfl (by kernel_rfl) (by kernel_rfl) (by kernel_rfl) rfl (fun _ _ _ h => h) (Or.inl ⟨by rfl, ?_⟩) ?_
      rotate_left; · intro w0 hS; obtain ⟨c0, c1, c2, c3, c4, c5, c6, c7, cB, cK⟩ := hS; go_simp; try with_reducible rfl
      try simp only [Act.put, List.setIfInBounds_toArray, List.set_cons_zero, List.set_cons_succ]
      refine Go_.take (i := 28) (oi := ⟨some 98, Op.move (Operand.tmp 1), 3, _, _, some (21, true)⟩) (v := ?_) rfl (by kernel_rfl) (by kernel_rfl) (by kernel_rfl) rfl (fun _ _ _ h => h) (Or.inl ⟨by rfl, ?_⟩) ?_
      rotate_left; · intro w0 _; go_simp; try with_reducible rfl
      try simp only [Act.put, List.setIfInBounds_toArray, List.set_cons_zero, List.set_cons_succ]
      refine Go_.take (i := 29) (oi := ⟨some 99, Op.move (Operand.tmp 9), 3, _, _, some (21, true)⟩) (v := ?_) rfl (by kernel_rfl) (by kernel_rfl) (by kernel_rfl) rfl (fun _ _ _ h => h) (Or.inl ⟨by rfl, ?_⟩) ?_
      rotate_left; · intro w0 _; go_simp; try with_reducible rfl
      try simp only [Act.put, List.setIfInBounds_toArray, List.set_cons_zero, List.set_cons_succ]
      refine Go_.step (i := 25) (o := ⟨some 95, Op.call { callee := Callee.value (Operand.func 46), args := #[Operand.tmp 92, Operand.tmp 93, Operand.tmp 94], argTypes := #[28, 3, 3] }, 24, _, _, some (21, true)⟩) (by kernel_rfl) rfl (fun K hT hK => ?_)
      replace hT := hT.1
      rw [if_pos (by rfl)]
      go_simp
      refine (la_stream k p 300 (by omega) R hR _).mono ?_
      rintro e w' ⟨A25, c25, rfl, hB25, hbx⟩
      refine hK.out _ _ (Till.of (env9_keep hT hbx)) ?_
      clear hT hK K
      refine Go_.raise (C := fun w0 => Bts w0 A25 R) hB25 ?_
      refine Go_.take (i := 26) (oi := ⟨some 96, Op.convert 24 9 (Operand.tmp 95), 9, _, _, some (21, true)⟩) (v := ?_) rfl (by kernel_rfl) (by kernel_rfl) (by kernel_rfl) rfl (fun _ _ _ h => h) (Or.inl ⟨by rfl, ?_⟩) ?_
      rotate_left; · intro w0 hS; obtain ⟨⟨c0, c1, c2, c3, c4, c5, c6, c7, cB, cK⟩, cB25⟩ := hS; go_simp; try with_reducible rfl
      try simp only [Act.put, List.setIfInBounds_toArray, List.set_cons_zero, List.set_cons_succ]
      refine Go_.step (i := 30) (o := ⟨some 100, Op.call { callee := Callee.value (Operand.func 47), args := #[Operand.tmp 97, Operand.tmp 98, Operand.tmp 99], argTypes := #[32, 3, 3] }, 9, _, _, some (21, true)⟩) (by kernel_rfl) rfl (fun K hT hK => ?_)
      replace hT := hT.1
      rw [if_pos (by rfl)]
      go_simp
      refine (la_rstream k p 300 (by omega) R hR _).mono ?_
      rintro e w' ⟨rfl, hbx⟩
      refine hK.out _ _ (Till.of ⟨env9_keep hT.1 hbx, hT.2.below hbx⟩) ?_
      clear hT hK K
      refine Go_.take (i := 31) (oi := ⟨some 101, Op.binOp BinOp.eql 9 (Operand.tmp 96) (Operand.tmp 100) 9, 4, _, _, some (21, true)⟩) (v := ?_) rfl (by kernel_rfl) (by kernel_rfl) (by kernel_rfl) rfl (fun _ _ _ h => h) (Or.inl ⟨by rfl, ?_⟩) ?_
      rotate_left; · intro w0 _; go_simp; try with_reducible rfl
      try simp only [Act.put, List.setIfInBounds_toArray, List.set_cons_zero, List.set_cons_succ]
      refine Go_.take (i := 32) (oi := ⟨some 102, Op.pick (Operand.tmp 91) (Operand.tmp 101) (Operand.const (Value.bool false)), 4, _, _, none⟩) (v := ?_) rfl (by kernel_rfl) (by kernel_rfl) (by kernel_rfl) rfl (fun _ _ _ h => h) (Or.inl ⟨by rfl, ?_⟩) ?_
      rotate_left; · intro w0 _; go_simp; try with_reducible rfl
      try simp only [Act.put, List.setIfInBounds_toArray, List.set_cons_zero, List.set_cons_succ]
      refine Go_.take (i := 33) (oi := ⟨some 103, Op.move (Operand.tmp 102), 4, _, _, none⟩) (v := ?_) rfl (by kernel_rfl) (by kernel_rfl) (by kernel_rfl) rfl (fun _ _ _ h => h) (Or.inl ⟨by rfl, ?_⟩) ?_
      rotate_left; · intro w0 _; go_simp; try with_reducible rfl
      try simp only [Act.put, List.setIfInBounds_toArray, List.set_cons_zero, List.set_cons_succ]
      refine Go_.take (i := 34) (oi := ⟨some 104, Op.load 23 (Operand.tmp 4), 23, _, _, some (33, true)⟩) (v := ?_) rfl (by kernel_rfl) (by kernel_rfl) (by kernel_rfl) rfl (fun _ _ _ h => h) (Or.inl ⟨by rfl, ?_⟩) ?_
      rotate_left; · intro w0 hS; obtain ⟨⟨c0, c1, c2, c3, c4, c5, c6, c7, cB, cK⟩, cB25⟩ := hS; go_simp; try with_reducible rfl
      try simp only [Act.put, List.setIfInBounds_toArray, List.set_cons_zero, List.set_cons_succ]
      refine Go_.take (i := 35) (oi := ⟨some 105, Op.move (Operand.tmp 1), 3, _, _, some (33, true)⟩) (v := ?_) rfl (by kernel_rfl) (by kernel_rfl) (by kernel_rfl) rfl (fun _ _ _ h => h) (Or.inl ⟨by rfl, ?_⟩) ?_
      rotate_left; · intro w0 _; go_simp; try with_reducible rfl
      try simp only [Act.put, List.setIfInBounds_toArray, List.set_cons_zero, List.set_cons_succ]
      refine Go_.take (i := 36) (oi := ⟨some 106, Op.move (Operand.tmp 3), 24, _, _, some (33, true)⟩) (v := ?_) rfl (by kernel_rfl) (by kernel_rfl) (by kernel_rfl) rfl (fun _ _ _ h => h) (Or.inl ⟨by rfl, ?_⟩) ?_
      rotate_left; · intro w0 _; go_simp; try with_reducible rfl
      try simp only [Act.put, List.setIfInBounds_toArray, List.set_cons_zero, List.set_cons_succ]
      refine Go_.take (i := 39) (oi := ⟨some 109, Op.load 23 (Operand.tmp 4), 23, _, _, some (33, true)⟩) (v := ?_) rfl (by kernel_rfl) (by kernel_rfl) (by kernel_rfl) rfl (fun _ _ _ h => h) (Or.inl ⟨by rfl, ?_⟩) ?_
      rotate_left; · intro w0 hS; obtain ⟨⟨c0, c1, c2, c3, c4, c5, c6, c7, cB, cK⟩, cB25⟩ := hS; go_simp; try with_reducible rfl
      try simp only [Act.put, List.setIfInBounds_toArray, List.set_cons_zero, List.set_cons_succ]
      refine Go_.take (i := 40) (oi := ⟨some 110, Op.move (Operand.tmp 1), 3, _, _, some (33, true)⟩) (v := ?_) rfl (by kernel_rfl) (by kernel_rfl) (by kernel_rfl) rfl (fun _ _ _ h => h) (Or.inl ⟨by rfl, ?_⟩) ?_
      rotate_left; · intro w0 _; go_simp; try with_reducible rfl
      try simp only [Act.put, List.setIfInBounds_toArray, List.set_cons_zero, List.set_cons_succ]
      refine Go_.take (i := 41) (oi := ⟨some 111, Op.move (Operand.tmp 3), 24, _, _, some (33, true)⟩) (v := ?_) rfl (by kernel_rfl) (by kernel_rfl) (by kernel_rfl) rfl (fun _ _ _ h => h) (Or.inl ⟨by rfl, ?_⟩) ?_
      rotate_left; · intro w0 _; go_simp; try with_reducible rfl
      try simp only [Act.put, List.setIfInBounds_toArray, List.set_cons_zero, List.set_cons_succ]
      refine Go_.take (i := 42) (oi := ⟨some 112, Op.convert 24 9 (Operand.tmp 111), 9, _, _, some (33, true)⟩) (v := ?_) rfl (by kernel_rfl) (by kernel_rfl) (by kernel_rfl) rfl (fun _ _ _ h => h) (Or.inl ⟨by rfl, ?_⟩) ?_
      rotate_left; · intro w0 hS; obtain ⟨⟨c0, c1, c2, c3, c4, c5, c6, c7, cB, cK⟩, cB25⟩ := hS; go_simp; try with_reducible rfl
      try simp only [Act.put, List.setIfInBounds_toArray, List.set_cons_zero, List.set_cons_succ]
      refine Go_.step (i := 37) (o := ⟨some 107, Op.call { callee := Callee.value (Operand.func 48), args := #[Operand.tmp 104, Operand.tmp 105, Operand.tmp 106], argTypes := #[28, 3, 24] }, 24, _, _, some (33, true)⟩) (by kernel_rfl) rfl (fun K hT hK => ?_)
      replace hT := hT.1
      rw [if_pos (by rfl)]
      go_simp
      refine (la_xor k p A l c X hX hl2 _ (env9_kp hT.1).2.2).mono ?_
      rintro e w' ⟨A37, c37, rfl, hB37, hbx⟩
      refine hK.out _ _ (Till.of ⟨env9_keep hT.1 hbx, hT.2.below hbx⟩) ?_
      clear hT hK K
      refine Go_.raise (C := fun w0 => Bts w0 A37 X) hB37 ?_
      refine Go_.take (i := 38) (oi := ⟨some 108, Op.convert 24 9 (Operand.tmp 107), 9, _, _, some (33, true)⟩) (v := ?_) rfl (by kernel_rfl) (by kernel_rfl) (by kernel_rfl) rfl (fun _ _ _ h => h) (Or.inl ⟨by rfl, ?_⟩) ?_
      rotate_left; · intro w0 hS; obtain ⟨⟨⟨c0, c1, c2, c3, c4, c5, c6, c7, cB, cK⟩, cB25⟩, cB37⟩ := hS; go_simp; try with_reducible rfl
      try simp only [Act.put, List.setIfInBounds_toArray, List.set_cons_zero, List.set_cons_succ]
      refine Go_.step (i := 43) (o := ⟨some 113, Op.call { callee := Callee.value (Operand.func 49), args := #[Operand.tmp 109, Operand.tmp 110, Operand.tmp 112], argTypes := #[32, 3, 9] }, 9, _, _, some (33, true)⟩) (by kernel_rfl) rfl (fun K hT hK => ?_)
      replace hT := hT.1
      rw [if_pos (by rfl)]
      go_simp
      refine (la_rxor k p l X hX hl2 _).mono ?_
      rintro e w' ⟨rfl, hbx⟩
      have hfin := (env9_kp (env9_keep hT.1.1 hbx)).below
      refine hK.out _ _ (Till.of ⟨⟨env9_keep hT.1.1 hbx, hT.1.2.below hbx⟩, hT.2.below hbx⟩) ?_
      clear hT hK K
      refine Go_.take (i := 44) (oi := ⟨some 114, Op.binOp BinOp.eql 9 (Operand.tmp 108) (Operand.tmp 113) 9, 4, _, _, some (33, true)⟩) (v := ?_) rfl (by kernel_rfl) (by kernel_rfl) (by kernel_rfl) rfl (fun _ _ _ h => h) (Or.inl ⟨by rfl, ?_⟩) ?_
      rotate_left; · intro w0 _; go_simp; try with_reducible rfl
      try simp only [Act.put, List.setIfInBounds_toArray, List.set_cons_zero, List.set_cons_succ]
      refine Go_.take (i := 45) (oi := ⟨some 115, Op.pick (Operand.tmp 103) (Operand.tmp 114) (Operand.const (Value.bool false)), 4, _, _, none⟩) (v := ?_) rfl (by kernel_rfl) (by kernel_rfl) (by kernel_rfl) rfl (fun _ _ _ h => h) (Or.inl ⟨by rfl, ?_⟩) ?_
      rotate_left; · intro w0 _; go_simp; try with_reducible rfl
      try simp only [Act.put, List.setIfInBounds_toArray, List.set_cons_zero, List.set_cons_succ]
      refine Go_.take (i := 46) (oi := ⟨some 8, Op.assign (Operand.tmp 115), 4, _, _, none⟩) (v := ?_) rfl (by kernel_rfl) (by kernel_rfl) (by kernel_rfl) rfl (fun _ _ _ h => h) (Or.inl ⟨by rfl, ?_⟩) ?_
      rotate_left; · intro w0 _; go_simp; try with_reducible rfl
      try simp only [Act.put, List.setIfInBounds_toArray, List.set_cons_zero, List.set_cons_succ]
      refine Go_.done (by kernel_rfl) ?_
      go_wp2
      go_ret
      exact ⟨ret_bool3 (by simp), hfin⟩
end Go.Proofs.Ytcdklmicbbcknaa
