/-
  steamerlaw14.LaneParts answers true and leaves old memory as it was: by a walk of its text (printed by laneparts.py).
-/
import Derived.Test.YtcdklmicbbcknaaEs
import Derived.Test.YtcdklmicbbcknaaRp
namespace Go.Proofs.Ytcdklmicbbcknaa
open Go Go.RowKit
/-- the n bytes at A read as the string s -/
def StrAt (w : World) (A : Option Addr) (n : Nat) (s : ByteArray) : Prop := ∃ l, Bts w A l ∧ l.length = n ∧ s = mkStr l
theorem StrAt.below {w w' : World} {A : Option Addr} {n : Nat} {s : ByteArray} (h : StrAt w A n s) (hb : Below w.heap.size w w') : StrAt w' A n s := by
  obtain ⟨l, h1, h2, h3⟩ := h
  exact ⟨l, h1.below hb, h2, h3⟩
theorem run_strAt {w : World} {A : Option Addr} {n c : Nat} {s : ByteArray} (h : StrAt w A n s) : (convert 24 9 (.slice A n c)).run Try.prog w = .ok (.string s) w := by
  obtain ⟨l, h1, h2, h3⟩ := h
  subst h2 h3
  exact run_str h1 c
theorem lp_stream (k : K8) (p : Int) (n : Nat) (w : World) (hn : n ≤ 200) : Calls Try.prog 46 #[.agg #[.int .u32 (W k.k0), .int .u32 (W k.k1), .int .u32 (W k.k2), .int .u32 (W k.k3), .int .u32 (W k.k4), .int .u32 (W k.k5), .int .u32 (W k.k6), .int .u32 (W k.k7)], .int .i64 p, .int .i64 n] w fun e w' => ∃ A c, e = .returned (.slice A n c) ∧ n ≤ c ∧ (∀ m, m ≤ n → StrAt w' A m (mkStr (streamL k p m))) ∧ Below w.heap.size w w' := by
  refine (stream_any k p n w (by omega)).mono ?_
  rintro e w' ⟨A, c, r, hr, rfl, ho, hb⟩
  have hl : r.length = n := by rw [hr.out, streamL_len]
  refine ⟨A, c, by rw [hl], by have := ho.cap; omega, fun m hm => ⟨streamL k p m, ?_, streamL_len _ _ _, rfl⟩, hb⟩
  rw [← streamL_take k p m n hm, ← hr.out]
  exact (ho.take m (by omega)).bts
theorem and_low14 (p : Int) : BitVec.ofInt 32 (bits .and .i64 p 4294967295) = BitVec.ofInt 32 p := by
  have h : bits .and .i64 p 4294967295 = p % 4294967296 := by
    show IntKind.i64.wrap ((BitVec.ofInt 64 p &&& BitVec.ofInt 64 4294967295).toNat : Int) = _
    rw [BitVec.toNat_and, show (BitVec.ofInt 64 4294967295).toNat = 2 ^ 32 - 1 by decide, Nat.and_two_pow_sub_one_eq_mod, BitVec.toNat_ofInt]
    simp [IntKind.wrap, IntKind.bits, IntKind.signed]
    omega
  rw [h]
  apply BitVec.eq_of_toNat_eq
  rw [BitVec.toNat_ofInt, BitVec.toNat_ofInt]
  simp
theorem ret_bool4 {b : Bool} (h : b = true) : Ending.returned (.bool b) = .returned (.bool true) := by rw [h]
theorem mod201 (n : Int) : ∃ a : Nat, (IntKind.u64.wrap n).tmod 201 = (a : Int) ∧ a ≤ 200 ∧ IntKind.i64.wrap (a : Int) = (a : Int) := by
  have h0 : 0 ≤ IntKind.u64.wrap n := by simp [IntKind.wrap, IntKind.bits, IntKind.signed]; omega
  rw [Int.tmod_eq_emod_of_nonneg h0]
  refine ⟨(IntKind.u64.wrap n % 201).toNat, by omega, by omega, ?_⟩
  simp [IntKind.wrap, IntKind.bits, IntKind.signed]; omega
set_option maxRecDepth 20000 in
set_option maxHeartbeats 8000000 in
theorem walk_LaneParts (k : K8) (p n m : Int) (w : World) (_hp : -9223372036854775808 ≤ p ∧ p < 9223372036854775808) (_hn : -9223372036854775808 ≤ n ∧ n < 9223372036854775808) (_hm : -9223372036854775808 ≤ m ∧ m < 9223372036854775808) :
    Calls Try.prog 18 #[.agg k.vals.toArray, .int .i64 p, .int .i64 n, .int .i64 m] w fun e w' => e = .returned (.bool true) ∧ Below w.heap.size w w' := by
  have HS := Lib.hid (env9_start ((Holds.new w 23 k.vals).drew) (w0 := w) (A := none) (l := []) ⟨((Below.refl _ _).alloc (Nat.le_refl _) _).drew, by simp, Bts.nil _ _⟩)
  obtain ⟨a, ha, ha2, ha3⟩ := mod201 n
  obtain ⟨b, hb, hb2, hb3⟩ := mod201 m
  unfold K8.vals at *
  rcases Nat.lt_or_ge b a with hba | hba
  · go_enter Try.func18, Try.ntmps18
    go_wp2_with fail
    refine wp_region_till 10 (fun w' => w'.cell? ⟨w.heap.size, 0, none⟩ = some (.int .u32 (W k.k0)) ∧ w'.cell? ⟨w.heap.size, 1, none⟩ = some (.int .u32 (W k.k1)) ∧ w'.cell? ⟨w.heap.size, 2, none⟩ = some (.int .u32 (W k.k2)) ∧ w'.cell? ⟨w.heap.size, 3, none⟩ = some (.int .u32 (W k.k3)) ∧ w'.cell? ⟨w.heap.size, 4, none⟩ = some (.int .u32 (W k.k4)) ∧ w'.cell? ⟨w.heap.size, 5, none⟩ = some (.int .u32 (W k.k5)) ∧ w'.cell? ⟨w.heap.size, 6, none⟩ = some (.int .u32 (W k.k6)) ∧ w'.cell? ⟨w.heap.size, 7, none⟩ = some (.int .u32 (W k.k7)) ∧ Bts w' none [] ∧ Kp w none [] w') (fun _ => True) (by kernel_rfl) (HS.out) trivial ?_
    show Go_ _ _ _ _ _ _ _ _ _ _ (World.drew _)
    refine Go_.take (i := 0) (oi := ⟨some 28, Op.load 23 (Operand.tmp 4), 23, _, _, none⟩) (v := ?_) rfl (by kernel_rfl) (by kernel_rfl) (by kernel_rfl) rfl (fun _ _ _ h => h) (Or.inl ⟨by rfl, ?_⟩) ?_
    rotate_left; · intro w0 hS; obtain ⟨c0, c1, c2, c3, c4, c5, c6, c7, cB, cK⟩ := hS; go_simp; try with_reducible rfl
    try simp only [Act.put, List.setIfInBounds_toArray, List.set_cons_zero, List.set_cons_succ]
    refine Go_.take (i := 1) (oi := ⟨some 29, Op.move (Operand.tmp 1), 3, _, _, none⟩) (v := ?_) rfl (by kernel_rfl) (by kernel_rfl) (by kernel_rfl) rfl (fun _ _ _ h => h) (Or.inl ⟨by rfl, ?_⟩) ?_
    rotate_left; · intro w0 _; go_simp; try with_reducible rfl
    try simp only [Act.put, List.setIfInBounds_toArray, List.set_cons_zero, List.set_cons_succ]
    refine Go_.take (i := 2) (oi := ⟨some 30, Op.move (Operand.tmp 9), 3, _, _, none⟩) (v := ?_) rfl (by kernel_rfl) (by kernel_rfl) (by kernel_rfl) rfl (fun _ _ _ h => h) (Or.inl ⟨by rfl, ?_⟩) ?_
    rotate_left; · intro w0 _; go_simp; try with_reducible rfl
    try simp only [Act.put, List.setIfInBounds_toArray, List.set_cons_zero, List.set_cons_succ]
    refine Go_.take (i := 4) (oi := ⟨some 32, Op.load 23 (Operand.tmp 4), 23, _, _, none⟩) (v := ?_) rfl (by kernel_rfl) (by kernel_rfl) (by kernel_rfl) rfl (fun _ _ _ h => h) (Or.inl ⟨by rfl, ?_⟩) ?_
    rotate_left; · intro w0 hS; obtain ⟨c0, c1, c2, c3, c4, c5, c6, c7, cB, cK⟩ := hS; go_simp; try with_reducible rfl
    try simp only [Act.put, List.setIfInBounds_toArray, List.set_cons_zero, List.set_cons_succ]
    refine Go_.take (i := 5) (oi := ⟨some 33, Op.move (Operand.tmp 1), 3, _, _, none⟩) (v := ?_) rfl (by kernel_rfl) (by kernel_rfl) (by kernel_rfl) rfl (fun _ _ _ h => h) (Or.inl ⟨by rfl, ?_⟩) ?_
    rotate_left; · intro w0 _; go_simp; try with_reducible rfl
    try simp only [Act.put, List.setIfInBounds_toArray, List.set_cons_zero, List.set_cons_succ]
    refine Go_.take (i := 6) (oi := ⟨some 34, Op.move (Operand.tmp 10), 3, _, _, none⟩) (v := ?_) rfl (by kernel_rfl) (by kernel_rfl) (by kernel_rfl) rfl (fun _ _ _ h => h) (Or.inl ⟨by rfl, ?_⟩) ?_
    rotate_left; · intro w0 _; go_simp; try with_reducible rfl
    try simp only [Act.put, List.setIfInBounds_toArray, List.set_cons_zero, List.set_cons_succ]
    refine Go_.step (i := 3) (o := ⟨some 31, Op.call { callee := Callee.value (Operand.func 46), args := #[Operand.tmp 28, Operand.tmp 29, Operand.tmp 30], argTypes := #[28, 3, 3] }, 24, _, _, none⟩) (by kernel_rfl) rfl (fun K hT hK => ?_)
    replace hT := hT.1
    rw [if_pos (by rfl)]
    go_simp
    refine (lp_stream k p b _ (by omega)).mono ?_
    rintro e w' ⟨A1, c1, rfl, hc1, hs1, hbx⟩
    refine hK.out _ _ (Till.of (env9_keep hT hbx)) ?_
    clear hT hK K
    refine Go_.step (i := 7) (o := ⟨some 35, Op.call { callee := Callee.value (Operand.func 46), args := #[Operand.tmp 32, Operand.tmp 33, Operand.tmp 34], argTypes := #[28, 3, 3] }, 24, _, _, none⟩) (by kernel_rfl) rfl (fun K hT hK => ?_)
    replace hT := hT.1
    rw [if_pos (by rfl)]
    go_simp
    refine (lp_stream k p a _ (by omega)).mono ?_
    rintro e w' ⟨A2, c2, rfl, hc2, hs2, hbx⟩
    have hs1b := (hs1 b (Nat.le_refl _)).below hbx
    have HS2 := Lib.hid (env9_keep hT hbx)
    refine hK.out _ _ (Till.of (env9_keep hT hbx)) ?_
    clear hT hK K
    refine Go_.take (i := 8) (oi := ⟨some 11, Op.assign (Operand.tmp 31), 24, _, _, none⟩) (v := ?_) rfl (by kernel_rfl) (by kernel_rfl) (by kernel_rfl) rfl (fun _ _ _ h => h) (Or.inl ⟨by rfl, ?_⟩) ?_
    rotate_left; · intro w0 _; go_simp; try with_reducible rfl
    try simp only [Act.put, List.setIfInBounds_toArray, List.set_cons_zero, List.set_cons_succ]
    refine Go_.take (i := 9) (oi := ⟨some 12, Op.assign (Operand.tmp 35), 24, _, _, none⟩) (v := ?_) rfl (by kernel_rfl) (by kernel_rfl) (by kernel_rfl) rfl (fun _ _ _ h => h) (Or.inl ⟨by rfl, ?_⟩) ?_
    rotate_left; · intro w0 _; go_simp; try with_reducible rfl
    try simp only [Act.put, List.setIfInBounds_toArray, List.set_cons_zero, List.set_cons_succ]
    refine Go_.done (by kernel_rfl) ?_
    clear HS hs1
    have hc8 := HS2.out
    go_wp2_with fail
    refine (lp_stream k _ a _ (by omega)).mono ?_
    rintro e w5 ⟨A3, c3, rfl, hc3, hs3, hb5⟩
    clear hc8
    have hk5 := env9_kp (env9_keep HS2.out hb5)
    have f1 := hs1b.below hb5
    have f2 := (hs2 b (by omega)).below hb5
    have f3 := (hs2 a (Nat.le_refl _)).below hb5
    have f4 := hs3 a (Nat.le_refl _)
    rw [streamL_place k _ p a (and_low14 p)] at f4
    have F := Lib.hid (And.intro f1 (And.intro f2 (And.intro f3 (And.intro f4 hk5.below))))
    clear f1 f2 f3 f4 hs1b hs2 hs3 HS2 hk5 hb5
    have hlc : (b : Int) ≤ (c2 : Int) := by omega
    have hl0 : (0 : Int) ≤ (b : Int) := by omega
    generalize mkStr (streamL k p b) = X at *
    generalize mkStr (streamL k p a) = Y at *
    go_wp2_with fail
    refine wp_region_till 18 (fun w' => StrAt w' A1 b X ∧ StrAt w' A2 b X ∧ StrAt w' A2 a Y ∧ StrAt w' A3 a Y ∧ Below w.heap.size w w') (fun _ => True) (by kernel_rfl) (⟨F.out.1, F.out.2.1, F.out.2.2.1, F.out.2.2.2.1, (F.out.2.2.2.2).drew⟩) trivial ?_
    show Go_ _ _ _ _ _ _ _ _ _ _ (World.drew _)
    refine Go_.step (i := 0) (o := ⟨some 52, Op.call { callee := Callee.value (Operand.func 43), args := #[], argTypes := #[] }, 4, _, _, none⟩) (by kernel_rfl) rfl (fun K hT hK => ?_)
    replace hT := hT.1
    rw [if_pos (by rfl)]
    go_simp
    refine (told14 _).mono ?_
    rintro e w' ⟨rfl, hbx⟩
    obtain ⟨f1, f2, f3, f4, f5⟩ := hT
    have hfin := f5.trans (hbx.mono f5.size)
    have hfin' := Lib.hid hfin
    refine hK.out _ _ (Till.of ⟨f1.below hbx, f2.below hbx, f3.below hbx, f4.below hbx, hfin⟩) ?_
    clear hK K
    refine Go_.take (i := 1) (oi := ⟨some 53, Op.move (Operand.tmp 52), 4, _, _, none⟩) (v := ?_) rfl (by kernel_rfl) (by kernel_rfl) (by kernel_rfl) rfl (fun _ _ _ h => h) (Or.inl ⟨by rfl, ?_⟩) ?_
    rotate_left; · intro w0 _; go_simp; try with_reducible rfl
    try simp only [Act.put, List.setIfInBounds_toArray, List.set_cons_zero, List.set_cons_succ]
    refine Go_.take (i := 2) (oi := ⟨some 54, Op.move (Operand.tmp 11), 24, _, _, some (1, true)⟩) (v := ?_) rfl (by kernel_rfl) (by kernel_rfl) (by kernel_rfl) rfl (fun _ _ _ h => h) (Or.inl ⟨by rfl, ?_⟩) ?_
    rotate_left; · intro w0 _; go_simp; try with_reducible rfl
    try simp only [Act.put, List.setIfInBounds_toArray, List.set_cons_zero, List.set_cons_succ]
    refine Go_.take (i := 3) (oi := ⟨some 55, Op.convert 24 9 (Operand.tmp 54), 9, _, _, some (1, true)⟩) (v := ?_) rfl (by kernel_rfl) (by kernel_rfl) (by kernel_rfl) rfl (fun _ _ _ h => h) (Or.inl ⟨by rfl, ?_⟩) ?_
    rotate_left; · intro w0 hS; obtain ⟨g1, g2, g3, g4, g5⟩ := hS; have r1 := run_strAt (c := c1) g1; have r2 := run_strAt (c := c2) g2; have r3 := run_strAt (c := c2) g3; have r4 := run_strAt (c := c3) g4; go_simp; try with_reducible rfl
    try simp only [Act.put, List.setIfInBounds_toArray, List.set_cons_zero, List.set_cons_succ]
    refine Go_.take (i := 4) (oi := ⟨some 56, Op.move (Operand.tmp 12), 24, _, _, some (1, true)⟩) (v := ?_) rfl (by kernel_rfl) (by kernel_rfl) (by kernel_rfl) rfl (fun _ _ _ h => h) (Or.inl ⟨by rfl, ?_⟩) ?_
    rotate_left; · intro w0 _; go_simp; try with_reducible rfl
    try simp only [Act.put, List.setIfInBounds_toArray, List.set_cons_zero, List.set_cons_succ]
    refine Go_.take (i := 5) (oi := ⟨some 57, Op.move (Operand.tmp 9), 3, _, _, some (1, true)⟩) (v := ?_) rfl (by kernel_rfl) (by kernel_rfl) (by kernel_rfl) rfl (fun _ _ _ h => h) (Or.inl ⟨by rfl, ?_⟩) ?_
    rotate_left; · intro w0 _; go_simp; try with_reducible rfl
    try simp only [Act.put, List.setIfInBounds_toArray, List.set_cons_zero, List.set_cons_succ]
    refine Go_.take (i := 6) (oi := ⟨some 58, Op.slice 24 (Operand.tmp 56) none (some (Operand.tmp 57)) none, 24, _, _, some (1, true)⟩) (v := ?_) rfl (by kernel_rfl) (by kernel_rfl) (by kernel_rfl) rfl (fun _ _ _ h => h) (Or.inl ⟨by rfl, ?_⟩) ?_
    rotate_left; · intro w0 _; go_simp; try with_reducible rfl
    try simp only [Act.put, List.setIfInBounds_toArray, List.set_cons_zero, List.set_cons_succ]
    refine Go_.take (i := 7) (oi := ⟨some 59, Op.convert 24 9 (Operand.tmp 58), 9, _, _, some (1, true)⟩) (v := ?_) rfl (by kernel_rfl) (by kernel_rfl) (by kernel_rfl) rfl (fun _ _ _ h => h) (Or.inl ⟨by rfl, ?_⟩) ?_
    rotate_left; · intro w0 hS; obtain ⟨g1, g2, g3, g4, g5⟩ := hS; have r1 := run_strAt (c := c1) g1; have r2 := run_strAt (c := c2) g2; have r3 := run_strAt (c := c2) g3; have r4 := run_strAt (c := c3) g4; go_simp; try with_reducible rfl
    try simp only [Act.put, List.setIfInBounds_toArray, List.set_cons_zero, List.set_cons_succ]
    refine Go_.take (i := 8) (oi := ⟨some 60, Op.binOp BinOp.eql 9 (Operand.tmp 55) (Operand.tmp 59) 9, 4, _, _, some (1, true)⟩) (v := ?_) rfl (by kernel_rfl) (by kernel_rfl) (by kernel_rfl) rfl (fun _ _ _ h => h) (Or.inl ⟨by rfl, ?_⟩) ?_
    rotate_left; · intro w0 _; go_simp; try with_reducible rfl
    try simp only [Act.put, List.setIfInBounds_toArray, List.set_cons_zero, List.set_cons_succ]
    refine Go_.take (i := 9) (oi := ⟨some 61, Op.pick (Operand.tmp 53) (Operand.tmp 60) (Operand.const (Value.bool false)), 4, _, _, none⟩) (v := ?_) rfl (by kernel_rfl) (by kernel_rfl) (by kernel_rfl) rfl (fun _ _ _ h => h) (Or.inl ⟨by rfl, ?_⟩) ?_
    rotate_left; · intro w0 _; go_simp; try with_reducible rfl
    try simp only [Act.put, List.setIfInBounds_toArray, List.set_cons_zero, List.set_cons_succ]
    refine Go_.take (i := 10) (oi := ⟨some 62, Op.move (Operand.tmp 61), 4, _, _, none⟩) (v := ?_) rfl (by kernel_rfl) (by kernel_rfl) (by kernel_rfl) rfl (fun _ _ _ h => h) (Or.inl ⟨by rfl, ?_⟩) ?_
    rotate_left; · intro w0 _; go_simp; try with_reducible rfl
    try simp only [Act.put, List.setIfInBounds_toArray, List.set_cons_zero, List.set_cons_succ]
    refine Go_.take (i := 11) (oi := ⟨some 63, Op.move (Operand.tmp 14), 24, _, _, some (10, true)⟩) (v := ?_) rfl (by kernel_rfl) (by kernel_rfl) (by kernel_rfl) rfl (fun _ _ _ h => h) (Or.inl ⟨by rfl, ?_⟩) ?_
    rotate_left; · intro w0 _; go_simp; try with_reducible rfl
    try simp only [Act.put, List.setIfInBounds_toArray, List.set_cons_zero, List.set_cons_succ]
    refine Go_.take (i := 12) (oi := ⟨some 64, Op.convert 24 9 (Operand.tmp 63), 9, _, _, some (10, true)⟩) (v := ?_) rfl (by kernel_rfl) (by kernel_rfl) (by kernel_rfl) rfl (fun _ _ _ h => h) (Or.inl ⟨by rfl, ?_⟩) ?_
    rotate_left; · intro w0 hS; obtain ⟨g1, g2, g3, g4, g5⟩ := hS; have r1 := run_strAt (c := c1) g1; have r2 := run_strAt (c := c2) g2; have r3 := run_strAt (c := c2) g3; have r4 := run_strAt (c := c3) g4; go_simp; try with_reducible rfl
    try simp only [Act.put, List.setIfInBounds_toArray, List.set_cons_zero, List.set_cons_succ]
    refine Go_.take (i := 13) (oi := ⟨some 65, Op.move (Operand.tmp 12), 24, _, _, some (10, true)⟩) (v := ?_) rfl (by kernel_rfl) (by kernel_rfl) (by kernel_rfl) rfl (fun _ _ _ h => h) (Or.inl ⟨by rfl, ?_⟩) ?_
    rotate_left; · intro w0 _; go_simp; try with_reducible rfl
    try simp only [Act.put, List.setIfInBounds_toArray, List.set_cons_zero, List.set_cons_succ]
    refine Go_.take (i := 14) (oi := ⟨some 66, Op.convert 24 9 (Operand.tmp 65), 9, _, _, some (10, true)⟩) (v := ?_) rfl (by kernel_rfl) (by kernel_rfl) (by kernel_rfl) rfl (fun _ _ _ h => h) (Or.inl ⟨by rfl, ?_⟩) ?_
    rotate_left; · intro w0 hS; obtain ⟨g1, g2, g3, g4, g5⟩ := hS; have r1 := run_strAt (c := c1) g1; have r2 := run_strAt (c := c2) g2; have r3 := run_strAt (c := c2) g3; have r4 := run_strAt (c := c3) g4; go_simp; try with_reducible rfl
    try simp only [Act.put, List.setIfInBounds_toArray, List.set_cons_zero, List.set_cons_succ]
    refine Go_.take (i := 15) (oi := ⟨some 67, Op.binOp BinOp.eql 9 (Operand.tmp 64) (Operand.tmp 66) 9, 4, _, _, some (10, true)⟩) (v := ?_) rfl (by kernel_rfl) (by kernel_rfl) (by kernel_rfl) rfl (fun _ _ _ h => h) (Or.inl ⟨by rfl, ?_⟩) ?_
    rotate_left; · intro w0 _; go_simp; try with_reducible rfl
    try simp only [Act.put, List.setIfInBounds_toArray, List.set_cons_zero, List.set_cons_succ]
    refine Go_.take (i := 16) (oi := ⟨some 68, Op.pick (Operand.tmp 62) (Operand.tmp 67) (Operand.const (Value.bool false)), 4, _, _, none⟩) (v := ?_) rfl (by kernel_rfl) (by kernel_rfl) (by kernel_rfl) rfl (fun _ _ _ h => h) (Or.inl ⟨by rfl, ?_⟩) ?_
    rotate_left; · intro w0 _; go_simp; try with_reducible rfl
    try simp only [Act.put, List.setIfInBounds_toArray, List.set_cons_zero, List.set_cons_succ]
    refine Go_.take (i := 17) (oi := ⟨some 8, Op.assign (Operand.tmp 68), 4, _, _, none⟩) (v := ?_) rfl (by kernel_rfl) (by kernel_rfl) (by kernel_rfl) rfl (fun _ _ _ h => h) (Or.inl ⟨by rfl, ?_⟩) ?_
    rotate_left; · intro w0 _; go_simp; try with_reducible rfl
    try simp only [Act.put, List.setIfInBounds_toArray, List.set_cons_zero, List.set_cons_succ]
    refine Go_.done (by kernel_rfl) ?_
    go_wp2
    go_ret
    exact ⟨ret_bool4 (by simp), hfin'.out⟩
  · go_enter Try.func18, Try.ntmps18
    go_wp2_with fail
    refine wp_region_till 10 (fun w' => w'.cell? ⟨w.heap.size, 0, none⟩ = some (.int .u32 (W k.k0)) ∧ w'.cell? ⟨w.heap.size, 1, none⟩ = some (.int .u32 (W k.k1)) ∧ w'.cell? ⟨w.heap.size, 2, none⟩ = some (.int .u32 (W k.k2)) ∧ w'.cell? ⟨w.heap.size, 3, none⟩ = some (.int .u32 (W k.k3)) ∧ w'.cell? ⟨w.heap.size, 4, none⟩ = some (.int .u32 (W k.k4)) ∧ w'.cell? ⟨w.heap.size, 5, none⟩ = some (.int .u32 (W k.k5)) ∧ w'.cell? ⟨w.heap.size, 6, none⟩ = some (.int .u32 (W k.k6)) ∧ w'.cell? ⟨w.heap.size, 7, none⟩ = some (.int .u32 (W k.k7)) ∧ Bts w' none [] ∧ Kp w none [] w') (fun _ => True) (by kernel_rfl) (HS.out) trivial ?_
    show Go_ _ _ _ _ _ _ _ _ _ _ (World.drew _)
    refine Go_.take (i := 0) (oi := ⟨some 28, Op.load 23 (Operand.tmp 4), 23, _, _, none⟩) (v := ?_) rfl (by kernel_rfl) (by kernel_rfl) (by kernel_rfl) rfl (fun _ _ _ h => h) (Or.inl ⟨by rfl, ?_⟩) ?_
    rotate_left; · intro w0 hS; obtain ⟨c0, c1, c2, c3, c4, c5, c6, c7, cB, cK⟩ := hS; go_simp; try with_reducible rfl
    try simp only [Act.put, List.setIfInBounds_toArray, List.set_cons_zero, List.set_cons_succ]
    refine Go_.take (i := 1) (oi := ⟨some 29, Op.move (Operand.tmp 1), 3, _, _, none⟩) (v := ?_) rfl (by kernel_rfl) (by kernel_rfl) (by kernel_rfl) rfl (fun _ _ _ h => h) (Or.inl ⟨by rfl, ?_⟩) ?_
    rotate_left; · intro w0 _; go_simp; try with_reducible rfl
    try simp only [Act.put, List.setIfInBounds_toArray, List.set_cons_zero, List.set_cons_succ]
    refine Go_.take (i := 2) (oi := ⟨some 30, Op.move (Operand.tmp 9), 3, _, _, none⟩) (v := ?_) rfl (by kernel_rfl) (by kernel_rfl) (by kernel_rfl) rfl (fun _ _ _ h => h) (Or.inl ⟨by rfl, ?_⟩) ?_
    rotate_left; · intro w0 _; go_simp; try with_reducible rfl
    try simp only [Act.put, List.setIfInBounds_toArray, List.set_cons_zero, List.set_cons_succ]
    refine Go_.take (i := 4) (oi := ⟨some 32, Op.load 23 (Operand.tmp 4), 23, _, _, none⟩) (v := ?_) rfl (by kernel_rfl) (by kernel_rfl) (by kernel_rfl) rfl (fun _ _ _ h => h) (Or.inl ⟨by rfl, ?_⟩) ?_
    rotate_left; · intro w0 hS; obtain ⟨c0, c1, c2, c3, c4, c5, c6, c7, cB, cK⟩ := hS; go_simp; try with_reducible rfl
    try simp only [Act.put, List.setIfInBounds_toArray, List.set_cons_zero, List.set_cons_succ]
    refine Go_.take (i := 5) (oi := ⟨some 33, Op.move (Operand.tmp 1), 3, _, _, none⟩) (v := ?_) rfl (by kernel_rfl) (by kernel_rfl) (by kernel_rfl) rfl (fun _ _ _ h => h) (Or.inl ⟨by rfl, ?_⟩) ?_
    rotate_left; · intro w0 _; go_simp; try with_reducible rfl
    try simp only [Act.put, List.setIfInBounds_toArray, List.set_cons_zero, List.set_cons_succ]
    refine Go_.take (i := 6) (oi := ⟨some 34, Op.move (Operand.tmp 10), 3, _, _, none⟩) (v := ?_) rfl (by kernel_rfl) (by kernel_rfl) (by kernel_rfl) rfl (fun _ _ _ h => h) (Or.inl ⟨by rfl, ?_⟩) ?_
    rotate_left; · intro w0 _; go_simp; try with_reducible rfl
    try simp only [Act.put, List.setIfInBounds_toArray, List.set_cons_zero, List.set_cons_succ]
    refine Go_.step (i := 3) (o := ⟨some 31, Op.call { callee := Callee.value (Operand.func 46), args := #[Operand.tmp 28, Operand.tmp 29, Operand.tmp 30], argTypes := #[28, 3, 3] }, 24, _, _, none⟩) (by kernel_rfl) rfl (fun K hT hK => ?_)
    replace hT := hT.1
    rw [if_pos (by rfl)]
    go_simp
    refine (lp_stream k p a _ (by omega)).mono ?_
    rintro e w' ⟨A1, c1, rfl, hc1, hs1, hbx⟩
    refine hK.out _ _ (Till.of (env9_keep hT hbx)) ?_
    clear hT hK K
    refine Go_.step (i := 7) (o := ⟨some 35, Op.call { callee := Callee.value (Operand.func 46), args := #[Operand.tmp 32, Operand.tmp 33, Operand.tmp 34], argTypes := #[28, 3, 3] }, 24, _, _, none⟩) (by kernel_rfl) rfl (fun K hT hK => ?_)
    replace hT := hT.1
    rw [if_pos (by rfl)]
    go_simp
    refine (lp_stream k p b _ (by omega)).mono ?_
    rintro e w' ⟨A2, c2, rfl, hc2, hs2, hbx⟩
    have hs1b := (hs1 a (Nat.le_refl _)).below hbx
    have HS2 := Lib.hid (env9_keep hT hbx)
    refine hK.out _ _ (Till.of (env9_keep hT hbx)) ?_
    clear hT hK K
    refine Go_.take (i := 8) (oi := ⟨some 11, Op.assign (Operand.tmp 31), 24, _, _, none⟩) (v := ?_) rfl (by kernel_rfl) (by kernel_rfl) (by kernel_rfl) rfl (fun _ _ _ h => h) (Or.inl ⟨by rfl, ?_⟩) ?_
    rotate_left; · intro w0 _; go_simp; try with_reducible rfl
    try simp only [Act.put, List.setIfInBounds_toArray, List.set_cons_zero, List.set_cons_succ]
    refine Go_.take (i := 9) (oi := ⟨some 12, Op.assign (Operand.tmp 35), 24, _, _, none⟩) (v := ?_) rfl (by kernel_rfl) (by kernel_rfl) (by kernel_rfl) rfl (fun _ _ _ h => h) (Or.inl ⟨by rfl, ?_⟩) ?_
    rotate_left; · intro w0 _; go_simp; try with_reducible rfl
    try simp only [Act.put, List.setIfInBounds_toArray, List.set_cons_zero, List.set_cons_succ]
    refine Go_.done (by kernel_rfl) ?_
    clear HS hs1
    have hc8 := HS2.out
    go_wp2_with fail
    refine (lp_stream k _ b _ (by omega)).mono ?_
    rintro e w5 ⟨A3, c3, rfl, hc3, hs3, hb5⟩
    clear hc8
    have hk5 := env9_kp (env9_keep HS2.out hb5)
    have f1 := hs1b.below hb5
    have f2 := (hs2 a (by omega)).below hb5
    have f3 := (hs2 b (Nat.le_refl _)).below hb5
    have f4 := hs3 b (Nat.le_refl _)
    rw [streamL_place k _ p b (and_low14 p)] at f4
    have F := Lib.hid (And.intro f1 (And.intro f2 (And.intro f3 (And.intro f4 hk5.below))))
    clear f1 f2 f3 f4 hs1b hs2 hs3 HS2 hk5 hb5
    have hlc : (a : Int) ≤ (c2 : Int) := by omega
    have hl0 : (0 : Int) ≤ (a : Int) := by omega
    generalize mkStr (streamL k p a) = X at *
    generalize mkStr (streamL k p b) = Y at *
    go_wp2_with fail
    refine wp_region_till 18 (fun w' => StrAt w' A1 a X ∧ StrAt w' A2 a X ∧ StrAt w' A2 b Y ∧ StrAt w' A3 b Y ∧ Below w.heap.size w w') (fun _ => True) (by kernel_rfl) (⟨F.out.1, F.out.2.1, F.out.2.2.1, F.out.2.2.2.1, (F.out.2.2.2.2).drew⟩) trivial ?_
    show Go_ _ _ _ _ _ _ _ _ _ _ (World.drew _)
    refine Go_.step (i := 0) (o := ⟨some 52, Op.call { callee := Callee.value (Operand.func 43), args := #[], argTypes := #[] }, 4, _, _, none⟩) (by kernel_rfl) rfl (fun K hT hK => ?_)
    replace hT := hT.1
    rw [if_pos (by rfl)]
    go_simp
    refine (told14 _).mono ?_
    rintro e w' ⟨rfl, hbx⟩
    obtain ⟨f1, f2, f3, f4, f5⟩ := hT
    have hfin := f5.trans (hbx.mono f5.size)
    have hfin' := Lib.hid hfin
    refine hK.out _ _ (Till.of ⟨f1.below hbx, f2.below hbx, f3.below hbx, f4.below hbx, hfin⟩) ?_
    clear hK K
    refine Go_.take (i := 1) (oi := ⟨some 53, Op.move (Operand.tmp 52), 4, _, _, none⟩) (v := ?_) rfl (by kernel_rfl) (by kernel_rfl) (by kernel_rfl) rfl (fun _ _ _ h => h) (Or.inl ⟨by rfl, ?_⟩) ?_
    rotate_left; · intro w0 _; go_simp; try with_reducible rfl
    try simp only [Act.put, List.setIfInBounds_toArray, List.set_cons_zero, List.set_cons_succ]
    refine Go_.take (i := 2) (oi := ⟨some 54, Op.move (Operand.tmp 11), 24, _, _, some (1, true)⟩) (v := ?_) rfl (by kernel_rfl) (by kernel_rfl) (by kernel_rfl) rfl (fun _ _ _ h => h) (Or.inl ⟨by rfl, ?_⟩) ?_
    rotate_left; · intro w0 _; go_simp; try with_reducible rfl
    try simp only [Act.put, List.setIfInBounds_toArray, List.set_cons_zero, List.set_cons_succ]
    refine Go_.take (i := 3) (oi := ⟨some 55, Op.convert 24 9 (Operand.tmp 54), 9, _, _, some (1, true)⟩) (v := ?_) rfl (by kernel_rfl) (by kernel_rfl) (by kernel_rfl) rfl (fun _ _ _ h => h) (Or.inl ⟨by rfl, ?_⟩) ?_
    rotate_left; · intro w0 hS; obtain ⟨g1, g2, g3, g4, g5⟩ := hS; have r1 := run_strAt (c := c1) g1; have r2 := run_strAt (c := c2) g2; have r3 := run_strAt (c := c2) g3; have r4 := run_strAt (c := c3) g4; go_simp; try with_reducible rfl
    try simp only [Act.put, List.setIfInBounds_toArray, List.set_cons_zero, List.set_cons_succ]
    refine Go_.take (i := 4) (oi := ⟨some 56, Op.move (Operand.tmp 12), 24, _, _, some (1, true)⟩) (v := ?_) rfl (by kernel_rfl) (by kernel_rfl) (by kernel_rfl) rfl (fun _ _ _ h => h) (Or.inl ⟨by rfl, ?_⟩) ?_
    rotate_left; · intro w0 _; go_simp; try with_reducible rfl
    try simp only [Act.put, List.setIfInBounds_toArray, List.set_cons_zero, List.set_cons_succ]
    refine Go_.take (i := 5) (oi := ⟨some 57, Op.move (Operand.tmp 9), 3, _, _, some (1, true)⟩) (v := ?_) rfl (by kernel_rfl) (by kernel_rfl) (by kernel_rfl) rfl (fun _ _ _ h => h) (Or.inl ⟨by rfl, ?_⟩) ?_
    rotate_left; · intro w0 _; go_simp; try with_reducible rfl
    try simp only [Act.put, List.setIfInBounds_toArray, List.set_cons_zero, List.set_cons_succ]
    refine Go_.take (i := 6) (oi := ⟨some 58, Op.slice 24 (Operand.tmp 56) none (some (Operand.tmp 57)) none, 24, _, _, some (1, true)⟩) (v := ?_) rfl (by kernel_rfl) (by kernel_rfl) (by kernel_rfl) rfl (fun _ _ _ h => h) (Or.inl ⟨by rfl, ?_⟩) ?_
    rotate_left; · intro w0 _; go_simp; try with_reducible rfl
    try simp only [Act.put, List.setIfInBounds_toArray, List.set_cons_zero, List.set_cons_succ]
    refine Go_.take (i := 7) (oi := ⟨some 59, Op.convert 24 9 (Operand.tmp 58), 9, _, _, some (1, true)⟩) (v := ?_) rfl (by kernel_rfl) (by kernel_rfl) (by kernel_rfl) rfl (fun _ _ _ h => h) (Or.inl ⟨by rfl, ?_⟩) ?_
    rotate_left; · intro w0 hS; obtain ⟨g1, g2, g3, g4, g5⟩ := hS; have r1 := run_strAt (c := c1) g1; have r2 := run_strAt (c := c2) g2; have r3 := run_strAt (c := c2) g3; have r4 := run_strAt (c := c3) g4; go_simp; try with_reducible rfl
    try simp only [Act.put, List.setIfInBounds_toArray, List.set_cons_zero, List.set_cons_succ]
    refine Go_.take (i := 8) (oi := ⟨some 60, Op.binOp BinOp.eql 9 (Operand.tmp 55) (Operand.tmp 59) 9, 4, _, _, some (1, true)⟩) (v := ?_) rfl (by kernel_rfl) (by kernel_rfl) (by kernel_rfl) rfl (fun _ _ _ h => h) (Or.inl ⟨by rfl, ?_⟩) ?_
    rotate_left; · intro w0 _; go_simp; try with_reducible rfl
    try simp only [Act.put, List.setIfInBounds_toArray, List.set_cons_zero, List.set_cons_succ]
    refine Go_.take (i := 9) (oi := ⟨some 61, Op.pick (Operand.tmp 53) (Operand.tmp 60) (Operand.const (Value.bool false)), 4, _, _, none⟩) (v := ?_) rfl (by kernel_rfl) (by kernel_rfl) (by kernel_rfl) rfl (fun _ _ _ h => h) (Or.inl ⟨by rfl, ?_⟩) ?_
    rotate_left; · intro w0 _; go_simp; try with_reducible rfl
    try simp only [Act.put, List.setIfInBounds_toArray, List.set_cons_zero, List.set_cons_succ]
    refine Go_.take (i := 10) (oi := ⟨some 62, Op.move (Operand.tmp 61), 4, _, _, none⟩) (v := ?_) rfl (by kernel_rfl) (by kernel_rfl) (by kernel_rfl) rfl (fun _ _ _ h => h) (Or.inl ⟨by rfl, ?_⟩) ?_
    rotate_left; · intro w0 _; go_simp; try with_reducible rfl
    try simp only [Act.put, List.setIfInBounds_toArray, List.set_cons_zero, List.set_cons_succ]
    refine Go_.take (i := 11) (oi := ⟨some 63, Op.move (Operand.tmp 14), 24, _, _, some (10, true)⟩) (v := ?_) rfl (by kernel_rfl) (by kernel_rfl) (by kernel_rfl) rfl (fun _ _ _ h => h) (Or.inl ⟨by rfl, ?_⟩) ?_
    rotate_left; · intro w0 _; go_simp; try with_reducible rfl
    try simp only [Act.put, List.setIfInBounds_toArray, List.set_cons_zero, List.set_cons_succ]
    refine Go_.take (i := 12) (oi := ⟨some 64, Op.convert 24 9 (Operand.tmp 63), 9, _, _, some (10, true)⟩) (v := ?_) rfl (by kernel_rfl) (by kernel_rfl) (by kernel_rfl) rfl (fun _ _ _ h => h) (Or.inl ⟨by rfl, ?_⟩) ?_
    rotate_left; · intro w0 hS; obtain ⟨g1, g2, g3, g4, g5⟩ := hS; have r1 := run_strAt (c := c1) g1; have r2 := run_strAt (c := c2) g2; have r3 := run_strAt (c := c2) g3; have r4 := run_strAt (c := c3) g4; go_simp; try with_reducible rfl
    try simp only [Act.put, List.setIfInBounds_toArray, List.set_cons_zero, List.set_cons_succ]
    refine Go_.take (i := 13) (oi := ⟨some 65, Op.move (Operand.tmp 12), 24, _, _, some (10, true)⟩) (v := ?_) rfl (by kernel_rfl) (by kernel_rfl) (by kernel_rfl) rfl (fun _ _ _ h => h) (Or.inl ⟨by rfl, ?_⟩) ?_
    rotate_left; · intro w0 _; go_simp; try with_reducible rfl
    try simp only [Act.put, List.setIfInBounds_toArray, List.set_cons_zero, List.set_cons_succ]
    refine Go_.take (i := 14) (oi := ⟨some 66, Op.convert 24 9 (Operand.tmp 65), 9, _, _, some (10, true)⟩) (v := ?_) rfl (by kernel_rfl) (by kernel_rfl) (by kernel_rfl) rfl (fun _ _ _ h => h) (Or.inl ⟨by rfl, ?_⟩) ?_
    rotate_left; · intro w0 hS; obtain ⟨g1, g2, g3, g4, g5⟩ := hS; have r1 := run_strAt (c := c1) g1; have r2 := run_strAt (c := c2) g2; have r3 := run_strAt (c := c2) g3; have r4 := run_strAt (c := c3) g4; go_simp; try with_reducible rfl
    try simp only [Act.put, List.setIfInBounds_toArray, List.set_cons_zero, List.set_cons_succ]
    refine Go_.take (i := 15) (oi := ⟨some 67, Op.binOp BinOp.eql 9 (Operand.tmp 64) (Operand.tmp 66) 9, 4, _, _, some (10, true)⟩) (v := ?_) rfl (by kernel_rfl) (by kernel_rfl) (by kernel_rfl) rfl (fun _ _ _ h => h) (Or.inl ⟨by rfl, ?_⟩) ?_
    rotate_left; · intro w0 _; go_simp; try with_reducible rfl
    try simp only [Act.put, List.setIfInBounds_toArray, List.set_cons_zero, List.set_cons_succ]
    refine Go_.take (i := 16) (oi := ⟨some 68, Op.pick (Operand.tmp 62) (Operand.tmp 67) (Operand.const (Value.bool false)), 4, _, _, none⟩) (v := ?_) rfl (by kernel_rfl) (by kernel_rfl) (by kernel_rfl) rfl (fun _ _ _ h => h) (Or.inl ⟨by rfl, ?_⟩) ?_
    rotate_left; · intro w0 _; go_simp; try with_reducible rfl
    try simp only [Act.put, List.setIfInBounds_toArray, List.set_cons_zero, List.set_cons_succ]
    refine Go_.take (i := 17) (oi := ⟨some 8, Op.assign (Operand.tmp 68), 4, _, _, none⟩) (v := ?_) rfl (by kernel_rfl) (by kernel_rfl) (by kernel_rfl) rfl (fun _ _ _ h => h) (Or.inl ⟨by rfl, ?_⟩) ?_
    rotate_left; · intro w0 _; go_simp; try with_reducible rfl
    try simp only [Act.put, List.setIfInBounds_toArray, List.set_cons_zero, List.set_cons_succ]
    refine Go_.done (by kernel_rfl) ?_
    go_wp2
    go_ret
    exact ⟨ret_bool4 (by simp), hfin'.out⟩
end Go.Proofs.Ytcdklmicbbcknaa
