/-
  seal.Put: what it comes to, by a walk of its text (printed by sp.py).
-/
import Derived.Test.YtcdklmicbbcknaaSm
import Derived.Test.YtcdklmicbbcknaaSg
import Derived.Test.YtcdklmicbbcknaaKt
import Derived.Test.YtcdklmicbbcknaaRt
namespace Go.Proofs.Ytcdklmicbbcknaa
open Go Go.RowKit
/-- a segment's bytes ahead of its tag -/
def sealB (k : K8) (y : UInt8) (P : Nat) (l : List UInt8) : List UInt8 := [y] ++ putL P ++ putL l.length ++ xorL (streamL k P l.length) l
def sealL (k : K8) (y : UInt8) (P : Nat) (l : List UInt8) : List UInt8 := sealB k y P l ++ tagL k P (sealB k y P l)
set_option maxRecDepth 20000 in
set_option maxHeartbeats 4000000 in
theorem sput_bad (k : K8) (kd p : Int) (last : Bool) (A : Option Addr) (n c : Nat) (w : World) (h : mayB kd p last n = false) :
    Calls Try.prog 54 #[.agg k.vals.toArray, .agg #[.int .i64 kd, .int .i64 p, .bool last, .slice A n c]] w fun e w' => e = .returned (.tuple #[.slice none 0 0, .int .i64 1]) ∧ Below w.heap.size w w' := by
  have hb0 : Below w.heap.size w ((w.alloc (.cells k.vals.toArray 28)).alloc (.cells #[.int .i64 kd, .int .i64 p, .bool last, .slice A n c] 81)) := ((Below.refl _ _).alloc (Nat.le_refl _) _).alloc (by simp) _
  unfold K8.vals at *
  go_enter Try.func54, Try.ntmps54
  go_wp2_with fail
  refine (may_any kd p last A n c _).mono ?_
  rintro e w1 ⟨rfl, hb1⟩
  rw [h]
  go_wp2_with fail
  exact bodyPost_ret (v := .tuple #[.slice none 0 0, .int .i64 1]) (by simp [results, Try.results54, go_sem]) rfl ⟨rfl, hb0.trans (hb1.mono (by simp; omega))⟩
theorem sp_put (n : Nat) (R : List UInt8) (hR : Hid (R = putL n)) (hn : n ≤ 18446744073709551615) (w : World) : Calls Try.prog 31 #[.int .u64 n] w fun e w' => ∃ A c, e = .returned (.slice A R.length c) ∧ Bts w' A R ∧ Below w.heap.size w w' := by
  obtain rfl := hR.out
  refine (put_any n hn w).mono ?_
  rintro e w' ⟨A, c, r, hr, rfl, ho, hb⟩
  obtain rfl := hr.out
  exact ⟨A, c, rfl, ho.bts, hb⟩
theorem sp_xor (k : K8) (P : Nat) (A : Option Addr) (l : List UInt8) (c : Nat) (X : List UInt8) (hX : Hid (X = xorL (streamL k P l.length) l)) (hl : l.length ≤ 12100) (w : World) (hB : Bts w A l) :
    Calls Try.prog 48 #[.agg #[.int .u32 (W k.k0), .int .u32 (W k.k1), .int .u32 (W k.k2), .int .u32 (W k.k3), .int .u32 (W k.k4), .int .u32 (W k.k5), .int .u32 (W k.k6), .int .u32 (W k.k7)], .int .i64 P, .slice A l.length c] w fun e w' => ∃ A' c', e = .returned (.slice A' X.length c') ∧ Bts w' A' X ∧ Below w.heap.size w w' := by
  refine (xor_any k P A l c w (by omega) hB).mono ?_
  rintro e w' ⟨A', c', r, hr, rfl, ho, hb⟩
  obtain rfl : X = r := by rw [hX.out, hr.out]
  exact ⟨A', c', rfl, ho.bts, hb⟩
theorem sp_of (k : K8) (P : Nat) (A : Option Addr) (r : List UInt8) (c : Nat) (t0 t1 t2 t3 t4 t5 t6 t7 : UInt8) (hT : Hid (tagL k P r = [t0, t1, t2, t3, t4, t5, t6, t7])) (hl : r.length ≤ 100000) (w : World) (hB : Bts w A r) :
    Calls Try.prog 25 #[.agg #[.int .u32 (W k.k0), .int .u32 (W k.k1), .int .u32 (W k.k2), .int .u32 (W k.k3), .int .u32 (W k.k4), .int .u32 (W k.k5), .int .u32 (W k.k6), .int .u32 (W k.k7)], .int .i64 P, .slice A r.length c] w fun e w' => e = .returned (.agg #[.int .u8 (t0.toNat : Int), .int .u8 (t1.toNat : Int), .int .u8 (t2.toNat : Int), .int .u8 (t3.toNat : Int), .int .u8 (t4.toNat : Int), .int .u8 (t5.toNat : Int), .int .u8 (t6.toNat : Int), .int .u8 (t7.toNat : Int)]) ∧ Below w.heap.size w w' := by
  have h := of_any k P A r c w (by omega) hB
  rw [hT.out] at h
  exact h
structure PtS (w0 : World) (k : K8) (s : List Value) (A : Option Addr) (l : List UInt8) (w : World) : Prop where
  kh : Holds w w0.heap.size 28 [.int .u32 (W k.k0), .int .u32 (W k.k1), .int .u32 (W k.k2), .int .u32 (W k.k3), .int .u32 (W k.k4), .int .u32 (W k.k5), .int .u32 (W k.k6), .int .u32 (W k.k7)]
  sh : Holds w (w0.heap.size + 1) 81 s
  bh : Bts w A l
  wh : Below w0.heap.size w0 w
theorem PtS.keep {w0 w w' : World} {k : K8} {s : List Value} {A : Option Addr} {l : List UInt8} (h : PtS w0 k s A l w) (hb : Below w.heap.size w w') : PtS w0 k s A l w' :=
  ⟨h.kh.below hb h.kh.lt, h.sh.below hb h.sh.lt, h.bh.below hb, h.wh.trans (hb.mono h.wh.size)⟩
set_option maxRecDepth 20000 in
set_option maxHeartbeats 16000000 in
theorem sput_good (k : K8) (y : UInt8) (P : Nat) (last : Bool) (A : Option Addr) (l : List UInt8) (c : Nat) (w : World) (hB : Bts w A l) (h : mayB (y.toNat : Int) (P : Int) last l.length = true) :
    Calls Try.prog 54 #[.agg k.vals.toArray, .agg #[.int .i64 (y.toNat : Int), .int .i64 (P : Int), .bool last, .slice A l.length c]] w fun e w' => ∃ A' c' r, Hid (r = sealL k y P l) ∧ e = .returned (.tuple #[.slice A' r.length c', .int .i64 0]) ∧ Own w' w.heap.size A' c' r ∧ Below w.heap.size w w' := by
  have hm := of_decide_eq_true h
  obtain ⟨hm1, hm2, hm3, hm4, hm5, hm6⟩ := hm
  clear hm6
  have hb0 : Below w.heap.size w ((w.alloc (.cells k.vals.toArray 28)).alloc (.cells #[.int .i64 (y.toNat : Int), .int .i64 (P : Int), .bool last, .slice A l.length c] 81)) := ((Below.refl _ _).alloc (Nat.le_refl _) _).alloc (by simp) _
  have hk0 := (Holds.newAt w 28 [.int .u32 (W k.k0), .int .u32 (W k.k1), .int .u32 (W k.k2), .int .u32 (W k.k3), .int .u32 (W k.k4), .int .u32 (W k.k5), .int .u32 (W k.k6), .int .u32 (W k.k7)] (n := w.heap.size) rfl).alloc (.cells #[.int .i64 (y.toNat : Int), .int .i64 (P : Int), .bool last, .slice A l.length c] 81)
  have hs0 := Holds.newAt (w.alloc (.cells #[.int .u32 (W k.k0), .int .u32 (W k.k1), .int .u32 (W k.k2), .int .u32 (W k.k3), .int .u32 (W k.k4), .int .u32 (W k.k5), .int .u32 (W k.k6), .int .u32 (W k.k7)] 28)) 81 [.int .i64 (y.toNat : Int), .int .i64 (P : Int), .bool last, .slice A l.length c] (n := w.heap.size + 1) (by simp)
  have hyb := UInt8.toNat_lt y
  obtain ⟨R1, hR1⟩ : ∃ R1, Hid (R1 = putL P) := ⟨_, rfl⟩
  obtain ⟨R2, hR2⟩ : ∃ R2, Hid (R2 = putL l.length) := ⟨_, rfl⟩
  obtain ⟨X, hX⟩ : ∃ X, Hid (X = xorL (streamL k P l.length) l) := ⟨_, rfl⟩
  have hR1l : R1.length ≤ 18 := by rw [hR1.out]; exact putL_18 P (by omega)
  have hR2l : R2.length ≤ 18 := by rw [hR2.out]; exact putL_18 l.length (by omega)
  have hXl : X.length ≤ 12100 := by rw [hX.out, xorL_len2]; exact hm5
  unfold K8.vals at *
  go_enter Try.func54, Try.ntmps54
  go_wp2_with fail
  refine (may_any (y.toNat : Int) (P : Int) last A l.length c _).mono ?_
  rintro e w1 ⟨rfl, hb1⟩
  rw [h]
  have HS : Hid (PtS w k [.int .i64 (y.toNat : Int), .int .i64 (P : Int), .bool last, .slice A l.length c] A l w1.drew) := Lib.hid (PtS.keep ⟨hk0.below hb1 hk0.lt, hs0.below hb1 hs0.lt, (hB.below hb0).below hb1, hb0.trans (hb1.mono hb0.size)⟩ (Below.refl _ _).drew)
  clear hk0 hs0 hb0 hb1 hB
  go_wp2_with fail
  have hwy : IntKind.u8.wrap (y.toNat : Int) = (y.toNat : Int) := by simp [IntKind.wrap, IntKind.bits, IntKind.signed]; omega
  have hwP : IntKind.u64.wrap (P : Int) = (P : Int) := by simp [IntKind.wrap, IntKind.bits, IntKind.signed]; omega
  have hwl : IntKind.u64.wrap (l.length : Int) = (l.length : Int) := by simp [IntKind.wrap, IntKind.bits, IntKind.signed]; omega
  refine wp_region_till 22 (fun w' => PtS w k [.int .i64 (y.toNat : Int), .int .i64 (P : Int), .bool last, .slice A l.length c] A l w') (fun _ => True) (by kernel_rfl) (HS.out) trivial ?_
  show Go_ _ _ _ _ _ _ _ _ _ _ (World.drew _)
  refine Go_.take (i := 0) (oi := ⟨some 11, Op.fieldAddr 81 (Operand.tmp 3) 0, 0, _, _, none⟩) (v := ?_) rfl (by kernel_rfl) (by kernel_rfl) (by kernel_rfl) rfl (fun _ _ _ h => h) (Or.inl ⟨by rfl, ?_⟩) ?_
  rotate_left; · intro w0 _; go_simp; try with_reducible rfl
  try simp only [Act.put, List.setIfInBounds_toArray, List.set_cons_zero, List.set_cons_succ]
  refine Go_.take (i := 1) (oi := ⟨some 12, Op.load 3 (Operand.tmp 11), 3, _, _, none⟩) (v := ?_) rfl (by kernel_rfl) (by kernel_rfl) (by kernel_rfl) rfl (fun _ _ _ h => h) (Or.inl ⟨by rfl, ?_⟩) ?_
  rotate_left; · intro w0 hS; obtain ⟨hH, hS4, hBB, hW⟩ : PtS w k [.int .i64 (y.toNat : Int), .int .i64 (P : Int), .bool last, .slice A l.length c] A l w0 := (by first | exact hS | exact hS.1 | exact hS.1.1 | exact hS.1.1.1 | exact hS.1.1.1.1); have h8 := hH.eight; have h4 := hS4.four; go_simp; try with_reducible rfl
  try simp only [Act.put, List.setIfInBounds_toArray, List.set_cons_zero, List.set_cons_succ]
  refine Go_.take (i := 2) (oi := ⟨some 13, Op.convert 3 5 (Operand.tmp 12), 5, _, _, none⟩) (v := ?_) rfl (by kernel_rfl) (by kernel_rfl) (by kernel_rfl) rfl (fun _ _ _ h => h) (Or.inl ⟨by rfl, ?_⟩) ?_
  rotate_left; · intro w0 hS; obtain ⟨hH, hS4, hBB, hW⟩ : PtS w k [.int .i64 (y.toNat : Int), .int .i64 (P : Int), .bool last, .slice A l.length c] A l w0 := (by first | exact hS | exact hS.1 | exact hS.1.1 | exact hS.1.1.1 | exact hS.1.1.1.1); have h8 := hH.eight; have h4 := hS4.four; go_simp; try with_reducible rfl
  try simp only [Act.put, List.setIfInBounds_toArray, List.set_cons_zero, List.set_cons_succ]
  refine Go_.take (i := 4) (oi := ⟨some 15, Op.fieldAddr 81 (Operand.tmp 3) 1, 0, _, _, none⟩) (v := ?_) rfl (by kernel_rfl) (by kernel_rfl) (by kernel_rfl) rfl (fun _ _ _ h => h) (Or.inl ⟨by rfl, ?_⟩) ?_
  rotate_left; · intro w0 _; go_simp; try with_reducible rfl
  try simp only [Act.put, List.setIfInBounds_toArray, List.set_cons_zero, List.set_cons_succ]
  refine Go_.take (i := 5) (oi := ⟨some 16, Op.load 3 (Operand.tmp 15), 3, _, _, none⟩) (v := ?_) rfl (by kernel_rfl) (by kernel_rfl) (by kernel_rfl) rfl (fun _ _ _ h => h) (Or.inl ⟨by rfl, ?_⟩) ?_
  rotate_left; · intro w0 hS; obtain ⟨hH, hS4, hBB, hW⟩ : PtS w k [.int .i64 (y.toNat : Int), .int .i64 (P : Int), .bool last, .slice A l.length c] A l w0 := (by first | exact hS | exact hS.1 | exact hS.1.1 | exact hS.1.1.1 | exact hS.1.1.1.1); have h8 := hH.eight; have h4 := hS4.four; go_simp; try with_reducible rfl
  try simp only [Act.put, List.setIfInBounds_toArray, List.set_cons_zero, List.set_cons_succ]
  refine Go_.take (i := 6) (oi := ⟨some 17, Op.convert 3 38 (Operand.tmp 16), 38, _, _, none⟩) (v := ?_) rfl (by kernel_rfl) (by kernel_rfl) (by kernel_rfl) rfl (fun _ _ _ h => h) (Or.inl ⟨by rfl, ?_⟩) ?_
  rotate_left; · intro w0 hS; obtain ⟨hH, hS4, hBB, hW⟩ : PtS w k [.int .i64 (y.toNat : Int), .int .i64 (P : Int), .bool last, .slice A l.length c] A l w0 := (by first | exact hS | exact hS.1 | exact hS.1.1 | exact hS.1.1.1 | exact hS.1.1.1.1); have h8 := hH.eight; have h4 := hS4.four; go_simp; try with_reducible rfl
  try simp only [Act.put, List.setIfInBounds_toArray, List.set_cons_zero, List.set_cons_succ]
  refine Go_.take (i := 8) (oi := ⟨some 19, Op.fieldAddr 81 (Operand.tmp 3) 3, 0, _, _, none⟩) (v := ?_) rfl (by kernel_rfl) (by kernel_rfl) (by kernel_rfl) rfl (fun _ _ _ h => h) (Or.inl ⟨by rfl, ?_⟩) ?_
  rotate_left; · intro w0 _; go_simp; try with_reducible rfl
  try simp only [Act.put, List.setIfInBounds_toArray, List.set_cons_zero, List.set_cons_succ]
  refine Go_.take (i := 9) (oi := ⟨some 20, Op.load 24 (Operand.tmp 19), 24, _, _, none⟩) (v := ?_) rfl (by kernel_rfl) (by kernel_rfl) (by kernel_rfl) rfl (fun _ _ _ h => h) (Or.inl ⟨by rfl, ?_⟩) ?_
  rotate_left; · intro w0 hS; obtain ⟨hH, hS4, hBB, hW⟩ : PtS w k [.int .i64 (y.toNat : Int), .int .i64 (P : Int), .bool last, .slice A l.length c] A l w0 := (by first | exact hS | exact hS.1 | exact hS.1.1 | exact hS.1.1.1 | exact hS.1.1.1.1); have h8 := hH.eight; have h4 := hS4.four; go_simp; try with_reducible rfl
  try simp only [Act.put, List.setIfInBounds_toArray, List.set_cons_zero, List.set_cons_succ]
  refine Go_.take (i := 10) (oi := ⟨some 21, Op.call { callee := Callee.builtin Builtin.len, args := #[Operand.tmp 20], argTypes := #[24] }, 3, _, _, none⟩) (v := ?_) rfl (by kernel_rfl) (by kernel_rfl) (by kernel_rfl) rfl (fun _ _ _ h => h) (Or.inl ⟨by rfl, ?_⟩) ?_
  rotate_left; · intro w0 hS; obtain ⟨hH, hS4, hBB, hW⟩ : PtS w k [.int .i64 (y.toNat : Int), .int .i64 (P : Int), .bool last, .slice A l.length c] A l w0 := (by first | exact hS | exact hS.1 | exact hS.1.1 | exact hS.1.1.1 | exact hS.1.1.1.1); have h8 := hH.eight; have h4 := hS4.four; go_simp; try with_reducible rfl
  try simp only [Act.put, List.setIfInBounds_toArray, List.set_cons_zero, List.set_cons_succ]
  refine Go_.take (i := 11) (oi := ⟨some 22, Op.convert 3 38 (Operand.tmp 21), 38, _, _, none⟩) (v := ?_) rfl (by kernel_rfl) (by kernel_rfl) (by kernel_rfl) rfl (fun _ _ _ h => h) (Or.inl ⟨by rfl, ?_⟩) ?_
  rotate_left; · intro w0 hS; obtain ⟨hH, hS4, hBB, hW⟩ : PtS w k [.int .i64 (y.toNat : Int), .int .i64 (P : Int), .bool last, .slice A l.length c] A l w0 := (by first | exact hS | exact hS.1 | exact hS.1.1 | exact hS.1.1.1 | exact hS.1.1.1.1); have h8 := hH.eight; have h4 := hS4.four; go_simp; try with_reducible rfl
  try simp only [Act.put, List.setIfInBounds_toArray, List.set_cons_zero, List.set_cons_succ]
  refine Go_.take (i := 13) (oi := ⟨some 24, Op.load 28 (Operand.tmp 2), 28, _, _, none⟩) (v := ?_) rfl (by kernel_rfl) (by kernel_rfl) (by kernel_rfl) rfl (fun _ _ _ h => h) (Or.inl ⟨by rfl, ?_⟩) ?_
  rotate_left; · intro w0 hS; obtain ⟨hH, hS4, hBB, hW⟩ : PtS w k [.int .i64 (y.toNat : Int), .int .i64 (P : Int), .bool last, .slice A l.length c] A l w0 := (by first | exact hS | exact hS.1 | exact hS.1.1 | exact hS.1.1.1 | exact hS.1.1.1.1); have h8 := hH.eight; have h4 := hS4.four; go_simp; try with_reducible rfl
  try simp only [Act.put, List.setIfInBounds_toArray, List.set_cons_zero, List.set_cons_succ]
  refine Go_.take (i := 14) (oi := ⟨some 25, Op.fieldAddr 81 (Operand.tmp 3) 1, 0, _, _, none⟩) (v := ?_) rfl (by kernel_rfl) (by kernel_rfl) (by kernel_rfl) rfl (fun _ _ _ h => h) (Or.inl ⟨by rfl, ?_⟩) ?_
  rotate_left; · intro w0 _; go_simp; try with_reducible rfl
  try simp only [Act.put, List.setIfInBounds_toArray, List.set_cons_zero, List.set_cons_succ]
  refine Go_.take (i := 15) (oi := ⟨some 26, Op.load 3 (Operand.tmp 25), 3, _, _, none⟩) (v := ?_) rfl (by kernel_rfl) (by kernel_rfl) (by kernel_rfl) rfl (fun _ _ _ h => h) (Or.inl ⟨by rfl, ?_⟩) ?_
  rotate_left; · intro w0 hS; obtain ⟨hH, hS4, hBB, hW⟩ : PtS w k [.int .i64 (y.toNat : Int), .int .i64 (P : Int), .bool last, .slice A l.length c] A l w0 := (by first | exact hS | exact hS.1 | exact hS.1.1 | exact hS.1.1.1 | exact hS.1.1.1.1); have h8 := hH.eight; have h4 := hS4.four; go_simp; try with_reducible rfl
  try simp only [Act.put, List.setIfInBounds_toArray, List.set_cons_zero, List.set_cons_succ]
  refine Go_.take (i := 16) (oi := ⟨some 27, Op.fieldAddr 81 (Operand.tmp 3) 3, 0, _, _, none⟩) (v := ?_) rfl (by kernel_rfl) (by kernel_rfl) (by kernel_rfl) rfl (fun _ _ _ h => h) (Or.inl ⟨by rfl, ?_⟩) ?_
  rotate_left; · intro w0 _; go_simp; try with_reducible rfl
  try simp only [Act.put, List.setIfInBounds_toArray, List.set_cons_zero, List.set_cons_succ]
  refine Go_.take (i := 17) (oi := ⟨some 28, Op.load 24 (Operand.tmp 27), 24, _, _, none⟩) (v := ?_) rfl (by kernel_rfl) (by kernel_rfl) (by kernel_rfl) rfl (fun _ _ _ h => h) (Or.inl ⟨by rfl, ?_⟩) ?_
  rotate_left; · intro w0 hS; obtain ⟨hH, hS4, hBB, hW⟩ : PtS w k [.int .i64 (y.toNat : Int), .int .i64 (P : Int), .bool last, .slice A l.length c] A l w0 := (by first | exact hS | exact hS.1 | exact hS.1.1 | exact hS.1.1.1 | exact hS.1.1.1.1); have h8 := hH.eight; have h4 := hS4.four; go_simp; try with_reducible rfl
  try simp only [Act.put, List.setIfInBounds_toArray, List.set_cons_zero, List.set_cons_succ]
  refine Go_.step2 (i := 3) (j := 7) (oi := ⟨some 14, Op.buildSlice 24 1 #[(0, Operand.tmp 13)], 24, _, _, none⟩) (oj := ⟨some 18, Op.call { callee := Callee.value (Operand.func 31), args := #[Operand.tmp 17], argTypes := #[38] }, 24, _, _, none⟩) (by kernel_rfl) rfl rfl (fun K hT hK => ?_) (fun K hT hK => ?_)
  · replace hT := hT.1
    rw [if_pos (by rfl)]
    go_simp
    refine hK.out _ _ (Till.of ?_) ?_
    · repeat' apply And.intro
      all_goals first | exact PtS.keep (by first | exact hT | exact hT.1 | exact hT.1.1 | exact hT.1.1.1 | exact hT.1.1.1.1) ((Below.refl _ _).alloc (Nat.le_refl _) _) | exact Bts.below (by first | exact hT.2 | exact hT.1.2 | exact hT.1.1.2 | exact hT.1.1.1.2) ((Below.refl _ _).alloc (Nat.le_refl _) _)
    clear hT hK K
    refine Go_.raise (C := fun w0 => Bts w0 (some ⟨w1.heap.size, 0, none⟩) [y]) (by first | exact Bts.of_holds (t := 5) (Holds.newAt _ 5 _ rfl) | exact Bts.drew (Bts.of_holds (t := 5) (Holds.newAt _ 5 _ rfl))) ?_
    refine Go_.step (i := 7) (o := ⟨some 18, Op.call { callee := Callee.value (Operand.func 31), args := #[Operand.tmp 17], argTypes := #[38] }, 24, _, _, none⟩) (by kernel_rfl) rfl (fun K hT hK => ?_)
    replace hT := hT.1
    rw [if_pos (by rfl)]
    go_simp
    refine (sp_put P R1 hR1 (by omega) _).mono ?_
    rintro e w7 ⟨A7, c7, rfl, hB7, hb7⟩
    refine hK.out _ _ (Till.of ?_) ?_
    · repeat' apply And.intro
      all_goals first | exact PtS.keep (by first | exact hT | exact hT.1 | exact hT.1.1 | exact hT.1.1.1 | exact hT.1.1.1.1) hb7 | exact Bts.below (by first | exact hT.2 | exact hT.1.2 | exact hT.1.1.2 | exact hT.1.1.1.2) hb7
    clear hT hK K
    refine Go_.raise (C := fun w0 => Bts w0 A7 R1) hB7 ?_
    refine Go_.step (i := 12) (o := ⟨some 23, Op.call { callee := Callee.value (Operand.func 31), args := #[Operand.tmp 22], argTypes := #[38] }, 24, _, _, none⟩) (by kernel_rfl) rfl (fun K hT hK => ?_)
    replace hT := hT.1
    rw [if_pos (by rfl)]
    go_simp
    refine (sp_put l.length R2 hR2 (by omega) _).mono ?_
    rintro e w12 ⟨A12, c12, rfl, hB12, hb12⟩
    refine hK.out _ _ (Till.of ?_) ?_
    · repeat' apply And.intro
      all_goals first | exact PtS.keep (by first | exact hT | exact hT.1 | exact hT.1.1 | exact hT.1.1.1 | exact hT.1.1.1.1) hb12 | exact Bts.below (by first | exact hT.2 | exact hT.1.2 | exact hT.1.1.2 | exact hT.1.1.1.2) hb12
    clear hT hK K
    refine Go_.raise (C := fun w0 => Bts w0 A12 R2) hB12 ?_
    refine Go_.step (i := 18) (o := ⟨some 29, Op.call { callee := Callee.value (Operand.func 48), args := #[Operand.tmp 24, Operand.tmp 26, Operand.tmp 28], argTypes := #[28, 3, 24] }, 24, _, _, none⟩) (by kernel_rfl) rfl (fun K hT hK => ?_)
    replace hT := hT.1
    rw [if_pos (by rfl)]
    go_simp
    have hQ : PtS w k [.int .i64 (y.toNat : Int), .int .i64 (P : Int), .bool last, .slice A l.length c] A l _ := (by first | exact hT | exact hT.1 | exact hT.1.1 | exact hT.1.1.1 | exact hT.1.1.1.1)
    refine (sp_xor k P A l c X hX hm5 _ hQ.bh).mono ?_
    rintro e w18 ⟨A18, c18, rfl, hB18, hb18⟩
    refine hK.out _ _ (Till.of ?_) ?_
    · repeat' apply And.intro
      all_goals first | exact PtS.keep (by first | exact hT | exact hT.1 | exact hT.1.1 | exact hT.1.1.1 | exact hT.1.1.1.1) hb18 | exact Bts.below (by first | exact hT.2 | exact hT.1.2 | exact hT.1.1.2 | exact hT.1.1.1.2) hb18
    clear hT hK K
    refine Go_.raise (C := fun w0 => Bts w0 A18 X) hB18 ?_
    refine Go_.step (i := 19) (o := ⟨some 30, Op.buildSlice 108 4 #[(0, Operand.tmp 14), (1, Operand.tmp 18), (2, Operand.tmp 23), (3, Operand.tmp 29)], 108, _, _, none⟩) (by kernel_rfl) rfl (fun K hT hK => ?_)
    replace hT := hT.1
    rw [if_pos (by rfl)]
    go_simp
    refine hK.out _ _ (Till.of ?_) ?_
    · repeat' apply And.intro
      all_goals first | exact PtS.keep (by first | exact hT | exact hT.1 | exact hT.1.1 | exact hT.1.1.1 | exact hT.1.1.1.1) ((Below.refl _ _).alloc (Nat.le_refl _) _) | exact Bts.below (by first | exact hT.2 | exact hT.1.2 | exact hT.1.1.2 | exact hT.1.1.1.2) ((Below.refl _ _).alloc (Nat.le_refl _) _)
    clear hT hK K
    refine Go_.step (i := 20) (o := ⟨some 31, Op.call { callee := Callee.value (Operand.func 69), args := #[Operand.tmp 30], argTypes := #[108] }, 24, _, _, none⟩) (by kernel_rfl) rfl (fun K hT hK => ?_)
    replace hT := hT.1
    rw [if_pos (by rfl)]
    have hsz20 := ((by first | exact hT | exact hT.1 | exact hT.1.1 | exact hT.1.1.1 | exact hT.1.1.1.1) : PtS w k [.int .i64 (y.toNat : Int), .int .i64 (P : Int), .bool last, .slice A l.length c] A l _).wh.size
    go_simp
    refine (concat4 _ _ _ _ _ [y] R1 R2 X _ _ _ _ _ (Holds.newAt _ 24 _ (by simp)) (by first | exact hT.2 | exact hT.1.2 | exact hT.1.1.2 | exact hT.1.1.1.2) (by first | exact hT.2 | exact hT.1.2 | exact hT.1.1.2 | exact hT.1.1.1.2) (by first | exact hT.2 | exact hT.1.2 | exact hT.1.1.2 | exact hT.1.1.1.2) (by first | exact hT.2 | exact hT.1.2 | exact hT.1.1.2 | exact hT.1.1.1.2) (by simp) (by omega) (by omega) (by omega)).mono ?_
    rintro e w20 ⟨A20, c20, r, hr, rfl, ho20, hb20⟩
    refine hK.out _ _ (Till.of ?_) ?_
    · repeat' apply And.intro
      all_goals first | exact PtS.keep (by first | exact hT | exact hT.1 | exact hT.1.1 | exact hT.1.1.1 | exact hT.1.1.1.1) hb20 | exact Bts.below (by first | exact hT.2 | exact hT.1.2 | exact hT.1.1.2 | exact hT.1.1.1.2) hb20
    clear hT hK K
    refine Go_.take (i := 21) (oi := ⟨some 6, Op.assign (Operand.tmp 31), 24, _, _, none⟩) (v := ?_) rfl (by kernel_rfl) (by kernel_rfl) (by kernel_rfl) rfl (fun _ _ _ h => h) (Or.inl ⟨by rfl, ?_⟩) ?_
    rotate_left; · intro w0 _; go_simp; try with_reducible rfl
    try simp only [Act.put, List.setIfInBounds_toArray, List.set_cons_zero, List.set_cons_succ]
    refine Go_.doneA (by kernel_rfl) (fun hA => ?_)
    have hP : PtS w k [.int .i64 (y.toNat : Int), .int .i64 (P : Int), .bool last, .slice A l.length c] A l w20 := (by first | exact hA | exact hA.1 | exact hA.1.1 | exact hA.1.1.1 | exact hA.1.1.1.1)
    have h8 := hP.kh.eight
    have h4 := hP.sh.four
    have hBr := ho20.bts
    have hseal : r = sealB k y P l := by rw [hr.out, sealB, hR1.out, hR2.out, hX.out]
    have hrl : r.length ≤ 20000 := by rw [hr.out]; simp only [List.length_append, List.length_singleton]; omega
    obtain ⟨t0, t1, t2, t3, t4, t5, t6, t7, hTT⟩ : ∃ t0 t1 t2 t3 t4 t5 t6 t7, Hid (tagL k P r = [t0, t1, t2, t3, t4, t5, t6, t7]) := ⟨_, _, _, _, _, _, _, _, rfl⟩
    have HSL := Lib.hid hseal
    clear hseal hA
    go_wp2_with fail
    refine (sp_of k P A20 r c20 _ _ _ _ _ _ _ _ hTT (by omega) _ hBr).mono ?_
    rintro e w25 ⟨rfl, hb25⟩
    have ho25 := (ho20.below hb25).alloc (.cells #[.int .u8 (t0.toNat : Int), .int .u8 (t1.toNat : Int), .int .u8 (t2.toNat : Int), .int .u8 (t3.toNat : Int), .int .u8 (t4.toNat : Int), .int .u8 (t5.toNat : Int), .int .u8 (t6.toNat : Int), .int .u8 (t7.toNat : Int)] 26)
    have hBt := Bts.of_holds (l := [t0, t1, t2, t3, t4, t5, t6, t7]) (Holds.newAt w25 26 [.int .u8 (t0.toNat : Int), .int .u8 (t1.toNat : Int), .int .u8 (t2.toNat : Int), .int .u8 (t3.toNat : Int), .int .u8 (t4.toNat : Int), .int .u8 (t5.toNat : Int), .int .u8 (t6.toNat : Int), .int .u8 (t7.toNat : Int)] (n := w25.heap.size) rfl)
    have hbw := (hP.wh.trans (hb25.mono hP.wh.size)).alloc (by have := hP.wh.size; have := hb25.size; omega) (.cells #[.int .u8 (t0.toNat : Int), .int .u8 (t1.toNat : Int), .int .u8 (t2.toNat : Int), .int .u8 (t3.toNat : Int), .int .u8 (t4.toNat : Int), .int .u8 (t5.toNat : Int), .int .u8 (t6.toNat : Int), .int .u8 (t7.toNat : Int)] 26)
    have hszb := Nat.le_trans hb20.size (Nat.le_trans hb25.size (by simp : w25.heap.size ≤ (w25.alloc (.cells #[.int .u8 (t0.toNat : Int), .int .u8 (t1.toNat : Int), .int .u8 (t2.toNat : Int), .int .u8 (t3.toNat : Int), .int .u8 (t4.toNat : Int), .int .u8 (t5.toNat : Int), .int .u8 (t6.toNat : Int), .int .u8 (t7.toNat : Int)] 26)).heap.size))
    clear h8 h4 hP hBr ho20 hb20
    go_wp2_with (at_builtin; refine wpList_app rfl (.tmp 37) (.tmp 38) rfl (by rfl) ho25 (by rfl) hBt (by simp; omega) hszb ?_; intro A5 c5 r5 w5 hr5 ho5 hg5 ha5)
    refine bodyPost_ret (v := .tuple #[.slice A5 r5.length c5, .int .i64 0]) (by simp [results, Try.results54, go_sem]) rfl ⟨A5, c5, r5, Lib.hid ?_, rfl, ho5.mono hsz20, hbw.grown hg5 hbw.size (fun q hq => Nat.le_trans hsz20 (ho25.lt q hq).1)⟩
    rw [hr5.out, sealL, ← HSL.out, hTT.out]
  · replace hT := hT.1
    rw [if_pos (by rfl)]
    go_simp
    refine (sp_put P R1 hR1 (by omega) _).mono ?_
    rintro e w7 ⟨A7, c7, rfl, hB7, hb7⟩
    refine hK.out _ _ (Till.of ?_) ?_
    · repeat' apply And.intro
      all_goals first | exact PtS.keep (by first | exact hT | exact hT.1 | exact hT.1.1 | exact hT.1.1.1 | exact hT.1.1.1.1) hb7 | exact Bts.below (by first | exact hT.2 | exact hT.1.2 | exact hT.1.1.2 | exact hT.1.1.1.2) hb7
    clear hT hK K
    refine Go_.raise (C := fun w0 => Bts w0 A7 R1) hB7 ?_
    refine Go_.step2 (i := 3) (j := 12) (oi := ⟨some 14, Op.buildSlice 24 1 #[(0, Operand.tmp 13)], 24, _, _, none⟩) (oj := ⟨some 23, Op.call { callee := Callee.value (Operand.func 31), args := #[Operand.tmp 22], argTypes := #[38] }, 24, _, _, none⟩) (by kernel_rfl) rfl rfl (fun K hT hK => ?_) (fun K hT hK => ?_)
    · replace hT := hT.1
      rw [if_pos (by rfl)]
      go_simp
      refine hK.out _ _ (Till.of ?_) ?_
      · repeat' apply And.intro
        all_goals first | exact PtS.keep (by first | exact hT | exact hT.1 | exact hT.1.1 | exact hT.1.1.1 | exact hT.1.1.1.1) ((Below.refl _ _).alloc (Nat.le_refl _) _) | exact Bts.below (by first | exact hT.2 | exact hT.1.2 | exact hT.1.1.2 | exact hT.1.1.1.2) ((Below.refl _ _).alloc (Nat.le_refl _) _)
      clear hT hK K
      refine Go_.raise (C := fun w0 => Bts w0 (some ⟨w7.heap.size, 0, none⟩) [y]) (by first | exact Bts.of_holds (t := 5) (Holds.newAt _ 5 _ rfl) | exact Bts.drew (Bts.of_holds (t := 5) (Holds.newAt _ 5 _ rfl))) ?_
      refine Go_.step (i := 12) (o := ⟨some 23, Op.call { callee := Callee.value (Operand.func 31), args := #[Operand.tmp 22], argTypes := #[38] }, 24, _, _, none⟩) (by kernel_rfl) rfl (fun K hT hK => ?_)
      replace hT := hT.1
      rw [if_pos (by rfl)]
      go_simp
      refine (sp_put l.length R2 hR2 (by omega) _).mono ?_
      rintro e w12 ⟨A12, c12, rfl, hB12, hb12⟩
      refine hK.out _ _ (Till.of ?_) ?_
      · repeat' apply And.intro
        all_goals first | exact PtS.keep (by first | exact hT | exact hT.1 | exact hT.1.1 | exact hT.1.1.1 | exact hT.1.1.1.1) hb12 | exact Bts.below (by first | exact hT.2 | exact hT.1.2 | exact hT.1.1.2 | exact hT.1.1.1.2) hb12
      clear hT hK K
      refine Go_.raise (C := fun w0 => Bts w0 A12 R2) hB12 ?_
      refine Go_.step (i := 18) (o := ⟨some 29, Op.call { callee := Callee.value (Operand.func 48), args := #[Operand.tmp 24, Operand.tmp 26, Operand.tmp 28], argTypes := #[28, 3, 24] }, 24, _, _, none⟩) (by kernel_rfl) rfl (fun K hT hK => ?_)
      replace hT := hT.1
      rw [if_pos (by rfl)]
      go_simp
      have hQ : PtS w k [.int .i64 (y.toNat : Int), .int .i64 (P : Int), .bool last, .slice A l.length c] A l _ := (by first | exact hT | exact hT.1 | exact hT.1.1 | exact hT.1.1.1 | exact hT.1.1.1.1)
      refine (sp_xor k P A l c X hX hm5 _ hQ.bh).mono ?_
      rintro e w18 ⟨A18, c18, rfl, hB18, hb18⟩
      refine hK.out _ _ (Till.of ?_) ?_
      · repeat' apply And.intro
        all_goals first | exact PtS.keep (by first | exact hT | exact hT.1 | exact hT.1.1 | exact hT.1.1.1 | exact hT.1.1.1.1) hb18 | exact Bts.below (by first | exact hT.2 | exact hT.1.2 | exact hT.1.1.2 | exact hT.1.1.1.2) hb18
      clear hT hK K
      refine Go_.raise (C := fun w0 => Bts w0 A18 X) hB18 ?_
      refine Go_.step (i := 19) (o := ⟨some 30, Op.buildSlice 108 4 #[(0, Operand.tmp 14), (1, Operand.tmp 18), (2, Operand.tmp 23), (3, Operand.tmp 29)], 108, _, _, none⟩) (by kernel_rfl) rfl (fun K hT hK => ?_)
      replace hT := hT.1
      rw [if_pos (by rfl)]
      go_simp
      refine hK.out _ _ (Till.of ?_) ?_
      · repeat' apply And.intro
        all_goals first | exact PtS.keep (by first | exact hT | exact hT.1 | exact hT.1.1 | exact hT.1.1.1 | exact hT.1.1.1.1) ((Below.refl _ _).alloc (Nat.le_refl _) _) | exact Bts.below (by first | exact hT.2 | exact hT.1.2 | exact hT.1.1.2 | exact hT.1.1.1.2) ((Below.refl _ _).alloc (Nat.le_refl _) _)
      clear hT hK K
      refine Go_.step (i := 20) (o := ⟨some 31, Op.call { callee := Callee.value (Operand.func 69), args := #[Operand.tmp 30], argTypes := #[108] }, 24, _, _, none⟩) (by kernel_rfl) rfl (fun K hT hK => ?_)
      replace hT := hT.1
      rw [if_pos (by rfl)]
      have hsz20 := ((by first | exact hT | exact hT.1 | exact hT.1.1 | exact hT.1.1.1 | exact hT.1.1.1.1) : PtS w k [.int .i64 (y.toNat : Int), .int .i64 (P : Int), .bool last, .slice A l.length c] A l _).wh.size
      go_simp
      refine (concat4 _ _ _ _ _ [y] R1 R2 X _ _ _ _ _ (Holds.newAt _ 24 _ (by simp)) (by first | exact hT.2 | exact hT.1.2 | exact hT.1.1.2 | exact hT.1.1.1.2) (by first | exact hT.2 | exact hT.1.2 | exact hT.1.1.2 | exact hT.1.1.1.2) (by first | exact hT.2 | exact hT.1.2 | exact hT.1.1.2 | exact hT.1.1.1.2) (by first | exact hT.2 | exact hT.1.2 | exact hT.1.1.2 | exact hT.1.1.1.2) (by simp) (by omega) (by omega) (by omega)).mono ?_
      rintro e w20 ⟨A20, c20, r, hr, rfl, ho20, hb20⟩
      refine hK.out _ _ (Till.of ?_) ?_
      · repeat' apply And.intro
        all_goals first | exact PtS.keep (by first | exact hT | exact hT.1 | exact hT.1.1 | exact hT.1.1.1 | exact hT.1.1.1.1) hb20 | exact Bts.below (by first | exact hT.2 | exact hT.1.2 | exact hT.1.1.2 | exact hT.1.1.1.2) hb20
      clear hT hK K
      refine Go_.take (i := 21) (oi := ⟨some 6, Op.assign (Operand.tmp 31), 24, _, _, none⟩) (v := ?_) rfl (by kernel_rfl) (by kernel_rfl) (by kernel_rfl) rfl (fun _ _ _ h => h) (Or.inl ⟨by rfl, ?_⟩) ?_
      rotate_left; · intro w0 _; go_simp; try with_reducible rfl
      try simp only [Act.put, List.setIfInBounds_toArray, List.set_cons_zero, List.set_cons_succ]
      refine Go_.doneA (by kernel_rfl) (fun hA => ?_)
      have hP : PtS w k [.int .i64 (y.toNat : Int), .int .i64 (P : Int), .bool last, .slice A l.length c] A l w20 := (by first | exact hA | exact hA.1 | exact hA.1.1 | exact hA.1.1.1 | exact hA.1.1.1.1)
      have h8 := hP.kh.eight
      have h4 := hP.sh.four
      have hBr := ho20.bts
      have hseal : r = sealB k y P l := by rw [hr.out, sealB, hR1.out, hR2.out, hX.out]
      have hrl : r.length ≤ 20000 := by rw [hr.out]; simp only [List.length_append, List.length_singleton]; omega
      obtain ⟨t0, t1, t2, t3, t4, t5, t6, t7, hTT⟩ : ∃ t0 t1 t2 t3 t4 t5 t6 t7, Hid (tagL k P r = [t0, t1, t2, t3, t4, t5, t6, t7]) := ⟨_, _, _, _, _, _, _, _, rfl⟩
      have HSL := Lib.hid hseal
      clear hseal hA
      go_wp2_with fail
      refine (sp_of k P A20 r c20 _ _ _ _ _ _ _ _ hTT (by omega) _ hBr).mono ?_
      rintro e w25 ⟨rfl, hb25⟩
      have ho25 := (ho20.below hb25).alloc (.cells #[.int .u8 (t0.toNat : Int), .int .u8 (t1.toNat : Int), .int .u8 (t2.toNat : Int), .int .u8 (t3.toNat : Int), .int .u8 (t4.toNat : Int), .int .u8 (t5.toNat : Int), .int .u8 (t6.toNat : Int), .int .u8 (t7.toNat : Int)] 26)
      have hBt := Bts.of_holds (l := [t0, t1, t2, t3, t4, t5, t6, t7]) (Holds.newAt w25 26 [.int .u8 (t0.toNat : Int), .int .u8 (t1.toNat : Int), .int .u8 (t2.toNat : Int), .int .u8 (t3.toNat : Int), .int .u8 (t4.toNat : Int), .int .u8 (t5.toNat : Int), .int .u8 (t6.toNat : Int), .int .u8 (t7.toNat : Int)] (n := w25.heap.size) rfl)
      have hbw := (hP.wh.trans (hb25.mono hP.wh.size)).alloc (by have := hP.wh.size; have := hb25.size; omega) (.cells #[.int .u8 (t0.toNat : Int), .int .u8 (t1.toNat : Int), .int .u8 (t2.toNat : Int), .int .u8 (t3.toNat : Int), .int .u8 (t4.toNat : Int), .int .u8 (t5.toNat : Int), .int .u8 (t6.toNat : Int), .int .u8 (t7.toNat : Int)] 26)
      have hszb := Nat.le_trans hb20.size (Nat.le_trans hb25.size (by simp : w25.heap.size ≤ (w25.alloc (.cells #[.int .u8 (t0.toNat : Int), .int .u8 (t1.toNat : Int), .int .u8 (t2.toNat : Int), .int .u8 (t3.toNat : Int), .int .u8 (t4.toNat : Int), .int .u8 (t5.toNat : Int), .int .u8 (t6.toNat : Int), .int .u8 (t7.toNat : Int)] 26)).heap.size))
      clear h8 h4 hP hBr ho20 hb20
      go_wp2_with (at_builtin; refine wpList_app rfl (.tmp 37) (.tmp 38) rfl (by rfl) ho25 (by rfl) hBt (by simp; omega) hszb ?_; intro A5 c5 r5 w5 hr5 ho5 hg5 ha5)
      refine bodyPost_ret (v := .tuple #[.slice A5 r5.length c5, .int .i64 0]) (by simp [results, Try.results54, go_sem]) rfl ⟨A5, c5, r5, Lib.hid ?_, rfl, ho5.mono hsz20, hbw.grown hg5 hbw.size (fun q hq => Nat.le_trans hsz20 (ho25.lt q hq).1)⟩
      rw [hr5.out, sealL, ← HSL.out, hTT.out]
    · replace hT := hT.1
      rw [if_pos (by rfl)]
      go_simp
      refine (sp_put l.length R2 hR2 (by omega) _).mono ?_
      rintro e w12 ⟨A12, c12, rfl, hB12, hb12⟩
      refine hK.out _ _ (Till.of ?_) ?_
      · repeat' apply And.intro
        all_goals first | exact PtS.keep (by first | exact hT | exact hT.1 | exact hT.1.1 | exact hT.1.1.1 | exact hT.1.1.1.1) hb12 | exact Bts.below (by first | exact hT.2 | exact hT.1.2 | exact hT.1.1.2 | exact hT.1.1.1.2) hb12
      clear hT hK K
      refine Go_.raise (C := fun w0 => Bts w0 A12 R2) hB12 ?_
      refine Go_.step2 (i := 3) (j := 18) (oi := ⟨some 14, Op.buildSlice 24 1 #[(0, Operand.tmp 13)], 24, _, _, none⟩) (oj := ⟨some 29, Op.call { callee := Callee.value (Operand.func 48), args := #[Operand.tmp 24, Operand.tmp 26, Operand.tmp 28], argTypes := #[28, 3, 24] }, 24, _, _, none⟩) (by kernel_rfl) rfl rfl (fun K hT hK => ?_) (fun K hT hK => ?_)
      · replace hT := hT.1
        rw [if_pos (by rfl)]
        go_simp
        refine hK.out _ _ (Till.of ?_) ?_
        · repeat' apply And.intro
          all_goals first | exact PtS.keep (by first | exact hT | exact hT.1 | exact hT.1.1 | exact hT.1.1.1 | exact hT.1.1.1.1) ((Below.refl _ _).alloc (Nat.le_refl _) _) | exact Bts.below (by first | exact hT.2 | exact hT.1.2 | exact hT.1.1.2 | exact hT.1.1.1.2) ((Below.refl _ _).alloc (Nat.le_refl _) _)
        clear hT hK K
        refine Go_.raise (C := fun w0 => Bts w0 (some ⟨w12.heap.size, 0, none⟩) [y]) (by first | exact Bts.of_holds (t := 5) (Holds.newAt _ 5 _ rfl) | exact Bts.drew (Bts.of_holds (t := 5) (Holds.newAt _ 5 _ rfl))) ?_
        refine Go_.step (i := 18) (o := ⟨some 29, Op.call { callee := Callee.value (Operand.func 48), args := #[Operand.tmp 24, Operand.tmp 26, Operand.tmp 28], argTypes := #[28, 3, 24] }, 24, _, _, none⟩) (by kernel_rfl) rfl (fun K hT hK => ?_)
        replace hT := hT.1
        rw [if_pos (by rfl)]
        go_simp
        have hQ : PtS w k [.int .i64 (y.toNat : Int), .int .i64 (P : Int), .bool last, .slice A l.length c] A l _ := (by first | exact hT | exact hT.1 | exact hT.1.1 | exact hT.1.1.1 | exact hT.1.1.1.1)
        refine (sp_xor k P A l c X hX hm5 _ hQ.bh).mono ?_
        rintro e w18 ⟨A18, c18, rfl, hB18, hb18⟩
        refine hK.out _ _ (Till.of ?_) ?_
        · repeat' apply And.intro
          all_goals first | exact PtS.keep (by first | exact hT | exact hT.1 | exact hT.1.1 | exact hT.1.1.1 | exact hT.1.1.1.1) hb18 | exact Bts.below (by first | exact hT.2 | exact hT.1.2 | exact hT.1.1.2 | exact hT.1.1.1.2) hb18
        clear hT hK K
        refine Go_.raise (C := fun w0 => Bts w0 A18 X) hB18 ?_
        refine Go_.step (i := 19) (o := ⟨some 30, Op.buildSlice 108 4 #[(0, Operand.tmp 14), (1, Operand.tmp 18), (2, Operand.tmp 23), (3, Operand.tmp 29)], 108, _, _, none⟩) (by kernel_rfl) rfl (fun K hT hK => ?_)
        replace hT := hT.1
        rw [if_pos (by rfl)]
        go_simp
        refine hK.out _ _ (Till.of ?_) ?_
        · repeat' apply And.intro
          all_goals first | exact PtS.keep (by first | exact hT | exact hT.1 | exact hT.1.1 | exact hT.1.1.1 | exact hT.1.1.1.1) ((Below.refl _ _).alloc (Nat.le_refl _) _) | exact Bts.below (by first | exact hT.2 | exact hT.1.2 | exact hT.1.1.2 | exact hT.1.1.1.2) ((Below.refl _ _).alloc (Nat.le_refl _) _)
        clear hT hK K
        refine Go_.step (i := 20) (o := ⟨some 31, Op.call { callee := Callee.value (Operand.func 69), args := #[Operand.tmp 30], argTypes := #[108] }, 24, _, _, none⟩) (by kernel_rfl) rfl (fun K hT hK => ?_)
        replace hT := hT.1
        rw [if_pos (by rfl)]
        have hsz20 := ((by first | exact hT | exact hT.1 | exact hT.1.1 | exact hT.1.1.1 | exact hT.1.1.1.1) : PtS w k [.int .i64 (y.toNat : Int), .int .i64 (P : Int), .bool last, .slice A l.length c] A l _).wh.size
        go_simp
        refine (concat4 _ _ _ _ _ [y] R1 R2 X _ _ _ _ _ (Holds.newAt _ 24 _ (by simp)) (by first | exact hT.2 | exact hT.1.2 | exact hT.1.1.2 | exact hT.1.1.1.2) (by first | exact hT.2 | exact hT.1.2 | exact hT.1.1.2 | exact hT.1.1.1.2) (by first | exact hT.2 | exact hT.1.2 | exact hT.1.1.2 | exact hT.1.1.1.2) (by first | exact hT.2 | exact hT.1.2 | exact hT.1.1.2 | exact hT.1.1.1.2) (by simp) (by omega) (by omega) (by omega)).mono ?_
        rintro e w20 ⟨A20, c20, r, hr, rfl, ho20, hb20⟩
        refine hK.out _ _ (Till.of ?_) ?_
        · repeat' apply And.intro
          all_goals first | exact PtS.keep (by first | exact hT | exact hT.1 | exact hT.1.1 | exact hT.1.1.1 | exact hT.1.1.1.1) hb20 | exact Bts.below (by first | exact hT.2 | exact hT.1.2 | exact hT.1.1.2 | exact hT.1.1.1.2) hb20
        clear hT hK K
        refine Go_.take (i := 21) (oi := ⟨some 6, Op.assign (Operand.tmp 31), 24, _, _, none⟩) (v := ?_) rfl (by kernel_rfl) (by kernel_rfl) (by kernel_rfl) rfl (fun _ _ _ h => h) (Or.inl ⟨by rfl, ?_⟩) ?_
        rotate_left; · intro w0 _; go_simp; try with_reducible rfl
        try simp only [Act.put, List.setIfInBounds_toArray, List.set_cons_zero, List.set_cons_succ]
        refine Go_.doneA (by kernel_rfl) (fun hA => ?_)
        have hP : PtS w k [.int .i64 (y.toNat : Int), .int .i64 (P : Int), .bool last, .slice A l.length c] A l w20 := (by first | exact hA | exact hA.1 | exact hA.1.1 | exact hA.1.1.1 | exact hA.1.1.1.1)
        have h8 := hP.kh.eight
        have h4 := hP.sh.four
        have hBr := ho20.bts
        have hseal : r = sealB k y P l := by rw [hr.out, sealB, hR1.out, hR2.out, hX.out]
        have hrl : r.length ≤ 20000 := by rw [hr.out]; simp only [List.length_append, List.length_singleton]; omega
        obtain ⟨t0, t1, t2, t3, t4, t5, t6, t7, hTT⟩ : ∃ t0 t1 t2 t3 t4 t5 t6 t7, Hid (tagL k P r = [t0, t1, t2, t3, t4, t5, t6, t7]) := ⟨_, _, _, _, _, _, _, _, rfl⟩
        have HSL := Lib.hid hseal
        clear hseal hA
        go_wp2_with fail
        refine (sp_of k P A20 r c20 _ _ _ _ _ _ _ _ hTT (by omega) _ hBr).mono ?_
        rintro e w25 ⟨rfl, hb25⟩
        have ho25 := (ho20.below hb25).alloc (.cells #[.int .u8 (t0.toNat : Int), .int .u8 (t1.toNat : Int), .int .u8 (t2.toNat : Int), .int .u8 (t3.toNat : Int), .int .u8 (t4.toNat : Int), .int .u8 (t5.toNat : Int), .int .u8 (t6.toNat : Int), .int .u8 (t7.toNat : Int)] 26)
        have hBt := Bts.of_holds (l := [t0, t1, t2, t3, t4, t5, t6, t7]) (Holds.newAt w25 26 [.int .u8 (t0.toNat : Int), .int .u8 (t1.toNat : Int), .int .u8 (t2.toNat : Int), .int .u8 (t3.toNat : Int), .int .u8 (t4.toNat : Int), .int .u8 (t5.toNat : Int), .int .u8 (t6.toNat : Int), .int .u8 (t7.toNat : Int)] (n := w25.heap.size) rfl)
        have hbw := (hP.wh.trans (hb25.mono hP.wh.size)).alloc (by have := hP.wh.size; have := hb25.size; omega) (.cells #[.int .u8 (t0.toNat : Int), .int .u8 (t1.toNat : Int), .int .u8 (t2.toNat : Int), .int .u8 (t3.toNat : Int), .int .u8 (t4.toNat : Int), .int .u8 (t5.toNat : Int), .int .u8 (t6.toNat : Int), .int .u8 (t7.toNat : Int)] 26)
        have hszb := Nat.le_trans hb20.size (Nat.le_trans hb25.size (by simp : w25.heap.size ≤ (w25.alloc (.cells #[.int .u8 (t0.toNat : Int), .int .u8 (t1.toNat : Int), .int .u8 (t2.toNat : Int), .int .u8 (t3.toNat : Int), .int .u8 (t4.toNat : Int), .int .u8 (t5.toNat : Int), .int .u8 (t6.toNat : Int), .int .u8 (t7.toNat : Int)] 26)).heap.size))
        clear h8 h4 hP hBr ho20 hb20
        go_wp2_with (at_builtin; refine wpList_app rfl (.tmp 37) (.tmp 38) rfl (by rfl) ho25 (by rfl) hBt (by simp; omega) hszb ?_; intro A5 c5 r5 w5 hr5 ho5 hg5 ha5)
        refine bodyPost_ret (v := .tuple #[.slice A5 r5.length c5, .int .i64 0]) (by simp [results, Try.results54, go_sem]) rfl ⟨A5, c5, r5, Lib.hid ?_, rfl, ho5.mono hsz20, hbw.grown hg5 hbw.size (fun q hq => Nat.le_trans hsz20 (ho25.lt q hq).1)⟩
        rw [hr5.out, sealL, ← HSL.out, hTT.out]
      · replace hT := hT.1
        rw [if_pos (by rfl)]
        go_simp
        have hQ : PtS w k [.int .i64 (y.toNat : Int), .int .i64 (P : Int), .bool last, .slice A l.length c] A l _ := (by first | exact hT | exact hT.1 | exact hT.1.1 | exact hT.1.1.1 | exact hT.1.1.1.1)
        refine (sp_xor k P A l c X hX hm5 _ hQ.bh).mono ?_
        rintro e w18 ⟨A18, c18, rfl, hB18, hb18⟩
        refine hK.out _ _ (Till.of ?_) ?_
        · repeat' apply And.intro
          all_goals first | exact PtS.keep (by first | exact hT | exact hT.1 | exact hT.1.1 | exact hT.1.1.1 | exact hT.1.1.1.1) hb18 | exact Bts.below (by first | exact hT.2 | exact hT.1.2 | exact hT.1.1.2 | exact hT.1.1.1.2) hb18
        clear hT hK K
        refine Go_.raise (C := fun w0 => Bts w0 A18 X) hB18 ?_
        refine Go_.step (i := 3) (o := ⟨some 14, Op.buildSlice 24 1 #[(0, Operand.tmp 13)], 24, _, _, none⟩) (by kernel_rfl) rfl (fun K hT hK => ?_)
        replace hT := hT.1
        rw [if_pos (by rfl)]
        go_simp
        refine hK.out _ _ (Till.of ?_) ?_
        · repeat' apply And.intro
          all_goals first | exact PtS.keep (by first | exact hT | exact hT.1 | exact hT.1.1 | exact hT.1.1.1 | exact hT.1.1.1.1) ((Below.refl _ _).alloc (Nat.le_refl _) _) | exact Bts.below (by first | exact hT.2 | exact hT.1.2 | exact hT.1.1.2 | exact hT.1.1.1.2) ((Below.refl _ _).alloc (Nat.le_refl _) _)
        clear hT hK K
        refine Go_.raise (C := fun w0 => Bts w0 (some ⟨w18.heap.size, 0, none⟩) [y]) (by first | exact Bts.of_holds (t := 5) (Holds.newAt _ 5 _ rfl) | exact Bts.drew (Bts.of_holds (t := 5) (Holds.newAt _ 5 _ rfl))) ?_
        refine Go_.step (i := 19) (o := ⟨some 30, Op.buildSlice 108 4 #[(0, Operand.tmp 14), (1, Operand.tmp 18), (2, Operand.tmp 23), (3, Operand.tmp 29)], 108, _, _, none⟩) (by kernel_rfl) rfl (fun K hT hK => ?_)
        replace hT := hT.1
        rw [if_pos (by rfl)]
        go_simp
        refine hK.out _ _ (Till.of ?_) ?_
        · repeat' apply And.intro
          all_goals first | exact PtS.keep (by first | exact hT | exact hT.1 | exact hT.1.1 | exact hT.1.1.1 | exact hT.1.1.1.1) ((Below.refl _ _).alloc (Nat.le_refl _) _) | exact Bts.below (by first | exact hT.2 | exact hT.1.2 | exact hT.1.1.2 | exact hT.1.1.1.2) ((Below.refl _ _).alloc (Nat.le_refl _) _)
        clear hT hK K
        refine Go_.step (i := 20) (o := ⟨some 31, Op.call { callee := Callee.value (Operand.func 69), args := #[Operand.tmp 30], argTypes := #[108] }, 24, _, _, none⟩) (by kernel_rfl) rfl (fun K hT hK => ?_)
        replace hT := hT.1
        rw [if_pos (by rfl)]
        have hsz20 := ((by first | exact hT | exact hT.1 | exact hT.1.1 | exact hT.1.1.1 | exact hT.1.1.1.1) : PtS w k [.int .i64 (y.toNat : Int), .int .i64 (P : Int), .bool last, .slice A l.length c] A l _).wh.size
        go_simp
        refine (concat4 _ _ _ _ _ [y] R1 R2 X _ _ _ _ _ (Holds.newAt _ 24 _ (by simp)) (by first | exact hT.2 | exact hT.1.2 | exact hT.1.1.2 | exact hT.1.1.1.2) (by first | exact hT.2 | exact hT.1.2 | exact hT.1.1.2 | exact hT.1.1.1.2) (by first | exact hT.2 | exact hT.1.2 | exact hT.1.1.2 | exact hT.1.1.1.2) (by first | exact hT.2 | exact hT.1.2 | exact hT.1.1.2 | exact hT.1.1.1.2) (by simp) (by omega) (by omega) (by omega)).mono ?_
        rintro e w20 ⟨A20, c20, r, hr, rfl, ho20, hb20⟩
        refine hK.out _ _ (Till.of ?_) ?_
        · repeat' apply And.intro
          all_goals first | exact PtS.keep (by first | exact hT | exact hT.1 | exact hT.1.1 | exact hT.1.1.1 | exact hT.1.1.1.1) hb20 | exact Bts.below (by first | exact hT.2 | exact hT.1.2 | exact hT.1.1.2 | exact hT.1.1.1.2) hb20
        clear hT hK K
        refine Go_.take (i := 21) (oi := ⟨some 6, Op.assign (Operand.tmp 31), 24, _, _, none⟩) (v := ?_) rfl (by kernel_rfl) (by kernel_rfl) (by kernel_rfl) rfl (fun _ _ _ h => h) (Or.inl ⟨by rfl, ?_⟩) ?_
        rotate_left; · intro w0 _; go_simp; try with_reducible rfl
        try simp only [Act.put, List.setIfInBounds_toArray, List.set_cons_zero, List.set_cons_succ]
        refine Go_.doneA (by kernel_rfl) (fun hA => ?_)
        have hP : PtS w k [.int .i64 (y.toNat : Int), .int .i64 (P : Int), .bool last, .slice A l.length c] A l w20 := (by first | exact hA | exact hA.1 | exact hA.1.1 | exact hA.1.1.1 | exact hA.1.1.1.1)
        have h8 := hP.kh.eight
        have h4 := hP.sh.four
        have hBr := ho20.bts
        have hseal : r = sealB k y P l := by rw [hr.out, sealB, hR1.out, hR2.out, hX.out]
        have hrl : r.length ≤ 20000 := by rw [hr.out]; simp only [List.length_append, List.length_singleton]; omega
        obtain ⟨t0, t1, t2, t3, t4, t5, t6, t7, hTT⟩ : ∃ t0 t1 t2 t3 t4 t5 t6 t7, Hid (tagL k P r = [t0, t1, t2, t3, t4, t5, t6, t7]) := ⟨_, _, _, _, _, _, _, _, rfl⟩
        have HSL := Lib.hid hseal
        clear hseal hA
        go_wp2_with fail
        refine (sp_of k P A20 r c20 _ _ _ _ _ _ _ _ hTT (by omega) _ hBr).mono ?_
        rintro e w25 ⟨rfl, hb25⟩
        have ho25 := (ho20.below hb25).alloc (.cells #[.int .u8 (t0.toNat : Int), .int .u8 (t1.toNat : Int), .int .u8 (t2.toNat : Int), .int .u8 (t3.toNat : Int), .int .u8 (t4.toNat : Int), .int .u8 (t5.toNat : Int), .int .u8 (t6.toNat : Int), .int .u8 (t7.toNat : Int)] 26)
        have hBt := Bts.of_holds (l := [t0, t1, t2, t3, t4, t5, t6, t7]) (Holds.newAt w25 26 [.int .u8 (t0.toNat : Int), .int .u8 (t1.toNat : Int), .int .u8 (t2.toNat : Int), .int .u8 (t3.toNat : Int), .int .u8 (t4.toNat : Int), .int .u8 (t5.toNat : Int), .int .u8 (t6.toNat : Int), .int .u8 (t7.toNat : Int)] (n := w25.heap.size) rfl)
        have hbw := (hP.wh.trans (hb25.mono hP.wh.size)).alloc (by have := hP.wh.size; have := hb25.size; omega) (.cells #[.int .u8 (t0.toNat : Int), .int .u8 (t1.toNat : Int), .int .u8 (t2.toNat : Int), .int .u8 (t3.toNat : Int), .int .u8 (t4.toNat : Int), .int .u8 (t5.toNat : Int), .int .u8 (t6.toNat : Int), .int .u8 (t7.toNat : Int)] 26)
        have hszb := Nat.le_trans hb20.size (Nat.le_trans hb25.size (by simp : w25.heap.size ≤ (w25.alloc (.cells #[.int .u8 (t0.toNat : Int), .int .u8 (t1.toNat : Int), .int .u8 (t2.toNat : Int), .int .u8 (t3.toNat : Int), .int .u8 (t4.toNat : Int), .int .u8 (t5.toNat : Int), .int .u8 (t6.toNat : Int), .int .u8 (t7.toNat : Int)] 26)).heap.size))
        clear h8 h4 hP hBr ho20 hb20
        go_wp2_with (at_builtin; refine wpList_app rfl (.tmp 37) (.tmp 38) rfl (by rfl) ho25 (by rfl) hBt (by simp; omega) hszb ?_; intro A5 c5 r5 w5 hr5 ho5 hg5 ha5)
        refine bodyPost_ret (v := .tuple #[.slice A5 r5.length c5, .int .i64 0]) (by simp [results, Try.results54, go_sem]) rfl ⟨A5, c5, r5, Lib.hid ?_, rfl, ho5.mono hsz20, hbw.grown hg5 hbw.size (fun q hq => Nat.le_trans hsz20 (ho25.lt q hq).1)⟩
        rw [hr5.out, sealL, ← HSL.out, hTT.out]
end Go.Proofs.Ytcdklmicbbcknaa
