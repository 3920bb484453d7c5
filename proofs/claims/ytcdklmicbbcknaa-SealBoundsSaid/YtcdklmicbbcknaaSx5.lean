/-
  seal.Get behind the numbers: a walk of its text (printed by sx3.py).
-/
import Derived.Test.YtcdklmicbbcknaaSx
namespace Go.Proofs.Ytcdklmicbbcknaa
open Go Go.RowKit
set_option maxRecDepth 20000 in
set_option maxHeartbeats 16000000 in
theorem sget_5 (k : K8) (b o : Nat) (l : List UInt8) (c at_ : Nat) (place : Int) (w : World) (hl : l.length ≤ 100000) (hlc : l.length ≤ c) (hB : Bts w (some ⟨b, o, none⟩) l) (h : at_ < l.length) (y : Nat) (hy : Hid ((l.getD at_ 0).toNat = y)) (hy1 : 1 ≤ y) (hy3 : y ≤ 3) (P t : Nat) (hN : Hid (numL l (at_ + 1) 1048576 = (P, t, 0))) (ht : t ≤ l.length) (hat : at_ < t)
    (n t2 : Nat) (hN2 : Hid (numL l t 12100 = (n, t2, 0))) (ht2 : t2 ≤ l.length) (htt : t < t2) (hlong : n + 8 ≤ l.length - t2) (hd : Hid (decide (tagL k P ((l.drop at_).take (t2 + n - at_)) = (l.drop (t2 + n)).take 8) = false)) :
    Calls Try.prog 59 #[.agg k.vals.toArray, .slice (some ⟨b, o, none⟩) l.length c, .int .i64 at_, .int .i64 place] w fun e w' => e = .returned (.tuple #[zseg, .int .i64 at_, .int .i64 4]) ∧ Below w.heap.size w w' := by
  obtain ⟨T, hT⟩ : ∃ T, Hid (T = (l.drop at_).take (t2 + n - at_)) := ⟨_, rfl⟩
  obtain ⟨U, hU⟩ : ∃ U, Hid (U = (l.drop (t2 + n)).take 8) := ⟨_, rfl⟩
  have hb0 : Below w.heap.size w ((w.alloc (.cells k.vals.toArray 28)).alloc (.cells #[.int .i64 0, .int .i64 0, .bool false, .slice none 0 0] 81)) := ((Below.refl _ _).alloc (Nat.le_refl _) _).alloc (by simp) _
  have hb1 := hb0.alloc (by simp; omega) (.cells #[.int .i64 y, .int .i64 0, .bool ((y : Int) == 3), .slice none 0 0] 81)
  have hb2 := hb0.alloc (by simp; omega) (.cells #[.int .i64 (y : Int), .int .i64 (P : Int), .bool ((y : Int) == 3), .slice none 0 0] 81)
  have hk2 := ((Holds.newAt w 28 [.int .u32 (W k.k0), .int .u32 (W k.k1), .int .u32 (W k.k2), .int .u32 (W k.k3), .int .u32 (W k.k4), .int .u32 (W k.k5), .int .u32 (W k.k6), .int .u32 (W k.k7)] (n := w.heap.size) rfl).alloc (.cells #[.int .i64 0, .int .i64 0, .bool false, .slice none 0 0] 81)).alloc (.cells #[.int .i64 (y : Int), .int .i64 (P : Int), .bool ((y : Int) == 3), .slice none 0 0] 81)
  have hz2 := (Holds.newAt (w.alloc (.cells #[.int .u32 (W k.k0), .int .u32 (W k.k1), .int .u32 (W k.k2), .int .u32 (W k.k3), .int .u32 (W k.k4), .int .u32 (W k.k5), .int .u32 (W k.k6), .int .u32 (W k.k7)] 28)) 81 [.int .i64 0, .int .i64 0, .bool false, .slice none 0 0] (n := w.heap.size + 1) (by simp)).alloc (.cells #[.int .i64 (y : Int), .int .i64 (P : Int), .bool ((y : Int) == 3), .slice none 0 0] 81)
  have hs2 := Holds.newAt ((w.alloc (.cells #[.int .u32 (W k.k0), .int .u32 (W k.k1), .int .u32 (W k.k2), .int .u32 (W k.k3), .int .u32 (W k.k4), .int .u32 (W k.k5), .int .u32 (W k.k6), .int .u32 (W k.k7)] 28)).alloc (.cells #[.int .i64 0, .int .i64 0, .bool false, .slice none 0 0] 81)) 81 [.int .i64 (y : Int), .int .i64 (P : Int), .bool ((y : Int) == 3), .slice none 0 0] (n := w.heap.size + 1 + 1) (by simp)
  unfold K8.vals at *
  have HB1 := Lib.hid (hB.below hb1)
  have HS2 : Hid (SxS w k [.int .i64 (y : Int), .int .i64 (P : Int), .bool ((y : Int) == 3), .slice none 0 0] (some ⟨b, o, none⟩) l _) := Lib.hid ⟨hk2, hz2, hs2, hB.below hb2, hb2⟩
  have hbw : Hid (b < w.heap.size) := by
    obtain ⟨b9, o9, e9, hlt, _⟩ := hB (by omega)
    injection e9 with e9
    injection e9 with e3 e4
    subst e3
    exact Lib.hid hlt
  obtain ⟨b', o', e', hbs, hcs⟩ := (hB.below hb0) (by omega)
  injection e' with e'
  injection e' with e1 e2
  subst e1 e2
  have hc := hcs at_ h
  rw [hy.out] at hc
  clear hcs hB hk2 hz2 hs2 hb1 hb2
  go_enter Try.func59, Try.ntmps59
  go_wp2_with fail
  refine (number_z _ l c (at_ + 1) 1048576 _ _ _ (by omega) (by omega) (by omega) (by omega) HB1.out (by omega) P t 0 hN).mono ?_
  rintro e w1 ⟨z, rfl, hz, rfl⟩
  obtain ⟨rfl, hPm⟩ := hz rfl
  clear hz
  go_wp2_with fail
  refine (number_z _ l c t 12100 _ _ _ rfl rfl ht (by omega) HS2.out.bh (by omega) _ _ _ hN2).mono ?_
  rintro e w1 ⟨z2, rfl, hz2, rfl⟩
  obtain ⟨rfl, hnm⟩ := hz2 rfl
  clear hz2 hc HB1 hb0
  go_wp2_with fail
  have hn1 : 0 ≤ (t2 : Int) + (n : Int) ∧ (t2 : Int) + (n : Int) ≤ (c : Int) := by omega
  have hn2 : ((t2 : Int) + (n : Int)).toNat = t2 + n := by omega
  have hn3 : at_ ≤ t2 + n := by omega
  have hn4 : ¬ c = at_ := by omega
  have hTl : T.length = t2 + n - at_ := by rw [hT.out, List.length_take, List.length_drop]; omega
  have hTl9 : t2 + n - at_ ≤ 100000 := by omega
  obtain ⟨t0, t1, s2, t3, t4, t5, t6, t7, hTT⟩ : ∃ t0 t1 s2 t3 t4 t5 t6 t7, Hid (tagL k P T = [t0, t1, s2, t3, t4, t5, t6, t7]) := ⟨_, _, _, _, _, _, _, _, rfl⟩
  obtain ⟨u0, u1, u2, u3, u4, u5, u6, u7, hUU⟩ := eight_of U (by rw [hU.out, List.length_take, List.length_drop]; omega)
  have hU2 : Hid ((l.drop (t2 + n)).take 8 = [u0, u1, u2, u3, u4, u5, u6, u7]) := by rw [← hU.out]; exact hUU
  have hd2 : Hid (decide (tagL k P T = U) = false) := by rw [hT.out, hU.out]; exact hd
  have hbl : ∀ {wc : World}, SxS w k [.int .i64 (y : Int), .int .i64 (P : Int), .bool ((y : Int) == 3), .slice none 0 0] (some ⟨b, o, none⟩) l wc → ∀ b' o', some (⟨b, o, none⟩ : Addr) = some ⟨b', o', none⟩ → b' ≠ wc.heap.size := fun {wc} hq b' o' e => by
    injection e with e
    injection e with e1 e2
    obtain ⟨b9, o9, e9, hlt, _⟩ := hq.bh (by omega)
    injection e9 with e9
    injection e9 with e3 e4
    omega
  have hT2 := hT
  clear hT hd
  generalize ((w.alloc (.cells #[.int .u32 (W k.k0), .int .u32 (W k.k1), .int .u32 (W k.k2), .int .u32 (W k.k3), .int .u32 (W k.k4), .int .u32 (W k.k5), .int .u32 (W k.k6), .int .u32 (W k.k7)] 28)).alloc (.cells #[.int .i64 0, .int .i64 0, .bool false, .slice none 0 0] 81)).alloc (.cells #[.int .i64 (y : Int), .int .i64 (P : Int), .bool ((y : Int) == 3), .slice none 0 0] 81) = wq at HS2 ⊢
  refine wp_region_till 10 (fun w' => SxS w k [.int .i64 (y : Int), .int .i64 (P : Int), .bool ((y : Int) == 3), .slice none 0 0] (some ⟨b, o, none⟩) l w') (fun _ => True) (by kernel_rfl) ((SxS.keep HS2.out (Below.refl _ _).drew)) trivial ?_
  show Go_ _ _ _ _ _ _ _ _ _ _ (World.drew _)
  refine Go_.take (i := 0) (oi := ⟨some 91, Op.load 28 (Operand.tmp 4), 28, _, _, none⟩) (v := ?_) rfl (by kernel_rfl) (by kernel_rfl) (by kernel_rfl) rfl (fun _ _ _ h => h) (Or.inl ⟨by rfl, ?_⟩) ?_
  rotate_left; · intro w0 hS; obtain ⟨hH, hZ0, hS4, hBB, hW⟩ : SxS w k [.int .i64 (y : Int), .int .i64 (P : Int), .bool ((y : Int) == 3), .slice none 0 0] (some ⟨b, o, none⟩) l w0 := hS; have h8 := hH.eight; have h4 := hS4.four; go_simp; try with_reducible rfl
  try simp only [Act.put, List.setIfInBounds_toArray, List.set_cons_zero, List.set_cons_succ]
  refine Go_.take (i := 1) (oi := ⟨some 92, Op.fieldAddr 81 (Operand.tmp 11) 1, 0, _, _, none⟩) (v := ?_) rfl (by kernel_rfl) (by kernel_rfl) (by kernel_rfl) rfl (fun _ _ _ h => h) (Or.inl ⟨by rfl, ?_⟩) ?_
  rotate_left; · intro w0 _; go_simp; try with_reducible rfl
  try simp only [Act.put, List.setIfInBounds_toArray, List.set_cons_zero, List.set_cons_succ]
  refine Go_.take (i := 2) (oi := ⟨some 93, Op.load 3 (Operand.tmp 92), 3, _, _, none⟩) (v := ?_) rfl (by kernel_rfl) (by kernel_rfl) (by kernel_rfl) rfl (fun _ _ _ h => h) (Or.inl ⟨by rfl, ?_⟩) ?_
  rotate_left; · intro w0 hS; obtain ⟨hH, hZ0, hS4, hBB, hW⟩ : SxS w k [.int .i64 (y : Int), .int .i64 (P : Int), .bool ((y : Int) == 3), .slice none 0 0] (some ⟨b, o, none⟩) l w0 := hS; have h8 := hH.eight; have h4 := hS4.four; go_simp; try with_reducible rfl
  try simp only [Act.put, List.setIfInBounds_toArray, List.set_cons_zero, List.set_cons_succ]
  refine Go_.take (i := 3) (oi := ⟨some 94, Op.move (Operand.tmp 1), 24, _, _, none⟩) (v := ?_) rfl (by kernel_rfl) (by kernel_rfl) (by kernel_rfl) rfl (fun _ _ _ h => h) (Or.inl ⟨by rfl, ?_⟩) ?_
  rotate_left; · intro w0 _; go_simp; try with_reducible rfl
  try simp only [Act.put, List.setIfInBounds_toArray, List.set_cons_zero, List.set_cons_succ]
  refine Go_.take (i := 4) (oi := ⟨some 95, Op.move (Operand.tmp 2), 3, _, _, none⟩) (v := ?_) rfl (by kernel_rfl) (by kernel_rfl) (by kernel_rfl) rfl (fun _ _ _ h => h) (Or.inl ⟨by rfl, ?_⟩) ?_
  rotate_left; · intro w0 _; go_simp; try with_reducible rfl
  try simp only [Act.put, List.setIfInBounds_toArray, List.set_cons_zero, List.set_cons_succ]
  refine Go_.take (i := 5) (oi := ⟨some 96, Op.move (Operand.tmp 15), 3, _, _, none⟩) (v := ?_) rfl (by kernel_rfl) (by kernel_rfl) (by kernel_rfl) rfl (fun _ _ _ h => h) (Or.inl ⟨by rfl, ?_⟩) ?_
  rotate_left; · intro w0 _; go_simp; try with_reducible rfl
  try simp only [Act.put, List.setIfInBounds_toArray, List.set_cons_zero, List.set_cons_succ]
  refine Go_.take (i := 6) (oi := ⟨some 97, Op.slice 24 (Operand.tmp 94) (some (Operand.tmp 95)) (some (Operand.tmp 96)) none, 24, _, _, none⟩) (v := ?_) rfl (by kernel_rfl) (by kernel_rfl) (by kernel_rfl) rfl (fun _ _ _ h => h) (Or.inl ⟨by rfl, ?_⟩) ?_
  rotate_left; · intro w0 _; go_simp; try with_reducible rfl
  try simp only [Act.put, List.setIfInBounds_toArray, List.set_cons_zero, List.set_cons_succ]
  refine Go_.step2 (i := 7) (j := 8) (oi := ⟨some 98, Op.call { callee := Callee.value (Operand.func 25), args := #[Operand.tmp 91, Operand.tmp 93, Operand.tmp 97], argTypes := #[28, 3, 24] }, 26, _, _, none⟩) (oj := ⟨some 16, Op.alloc 26, 0, _, _, none⟩) (by kernel_rfl) rfl rfl (fun K hT hK => ?_) (fun K hT hK => ?_)
  · replace hT := hT.1
    rw [if_pos (by rfl)]
    go_simp
    refine (sx_of k P _ T _ (c - at_) hTl _ _ _ _ _ _ _ _ hTT (by omega) _ (hT2.out ▸ (hT.bh.part (by omega) at_ (t2 + n - at_) (by omega)))).mono ?_
    rintro e w7 ⟨rfl, hb7⟩
    refine hK.out _ _ (Till.of (SxS.keep hT hb7)) ?_
    clear hT hK K
    refine Go_.step (i := 8) (o := ⟨some 16, Op.alloc 26, 0, _, _, none⟩) (by kernel_rfl) rfl (fun K hT hK => ?_)
    replace hT := hT.1
    rw [if_pos (by rfl)]
    refine wp_al26 rfl ?_
    intro w8 h8z hb8
    have hl8 := hT.sh.lt
    have hlb := hbl hT
    first | (change Holds w8 wq.heap.size 26 _ at h8z; change _ < wq.heap.size at hl8; change ∀ b9 o9, _ = _ → b9 ≠ wq.heap.size at hlb) | skip
    refine hK.out _ _ (Till.of (SxS.keep hT hb8)) ?_
    clear hT hK K
    refine Go_.step (i := 9) (o := ⟨none, Op.store 26 (Operand.tmp 16) (Operand.tmp 98), 0, _, _, none⟩) (by kernel_rfl) rfl (fun K hT hK => ?_)
    replace hT := hT.1
    rw [if_pos (by rfl)]
    refine with_holds (t := 26) (by first | exact h8z | exact h8z.below hb7 h8z.lt) (fun hh => ?_)
    have z8 := hh.eight
    have zf := hh.eightFree
    have hS8 := set8v (v0 := .int .u8 (t0.toNat : Int)) (v1 := .int .u8 (t1.toNat : Int)) (v2 := .int .u8 (s2.toNat : Int)) (v3 := .int .u8 (t3.toNat : Int)) (v4 := .int .u8 (t4.toNat : Int)) (v5 := .int .u8 (t5.toNat : Int)) (v6 := .int .u8 (t6.toNat : Int)) (v7 := .int .u8 (t7.toNat : Int)) hh
    clear hh
    go_simp
    refine hK.out _ _ (Till.of (SxS.set hT hl8 hlb)) ?_
    clear hT hK K
    refine Go_.doneA (by kernel_rfl) (fun hA => ?_)
    clear hlb h8z hb8 hb7 z8 zf
    refine two_worlds (A := fun w' => SxS w k [.int .i64 (y : Int), .int .i64 (P : Int), .bool ((y : Int) == 3), .slice none 0 0] (some ⟨b, o, none⟩) l w') (B := fun w' => Holds w' (w7.heap.size) 26 [.int .u8 (t0.toNat : Int), .int .u8 (t1.toNat : Int), .int .u8 (s2.toNat : Int), .int .u8 (t3.toNat : Int), .int .u8 (t4.toNat : Int), .int .u8 (t5.toNat : Int), .int .u8 (t6.toNat : Int), .int .u8 (t7.toNat : Int)]) hA hS8 (fun wx hA hS9 => ?_)
    have HQ := Lib.hid (And.intro (SxS.keep hA (Below.refl _ _).drew) (hS9.drew))
    clear hA hS8 hS9
    go_wp2_with fail
    have hm1 : IntKind.i64.wrap ((t2 : Int) + (n : Int) + 8) = (t2 : Int) + (n : Int) + 8 := by simp [IntKind.wrap, IntKind.bits, IntKind.signed]; omega
    have hm2 : 0 ≤ (t2 : Int) + (n : Int) + 8 ∧ (t2 : Int) + (n : Int) + 8 ≤ (c : Int) := by omega
    have hm3 : ((t2 : Int) + (n : Int) + 8).toNat = t2 + n + 8 := by omega
    have hm4 : ¬ c = t2 + n := by omega
    have hm5 : (t2 : Int) + (n : Int) ≤ (t2 : Int) + (n : Int) + 8 := by omega
    have hm6 : t2 + n + 8 - (t2 + n) = 8 := by omega
    have harr : ∀ c9 w9, (Instr.arrayAt 26 (.slice (some ⟨b, o + (t2 + n), none⟩) 8 c9)).run Try.prog w9 = .ok (.pointer (some ⟨b, o + (t2 + n), none⟩)) w9 := fun c9 w9 => run_arrayAt (P := Try.prog) w9 26 5 8 _ 8 c9 Try.underlying26 (Nat.le_refl _)
    refine wp_region_till 10 (fun w' => SxS w k [.int .i64 (y : Int), .int .i64 (P : Int), .bool ((y : Int) == 3), .slice none 0 0] (some ⟨b, o, none⟩) l w' ∧ Holds w' (w7.heap.size) 26 [.int .u8 (t0.toNat : Int), .int .u8 (t1.toNat : Int), .int .u8 (s2.toNat : Int), .int .u8 (t3.toNat : Int), .int .u8 (t4.toNat : Int), .int .u8 (t5.toNat : Int), .int .u8 (t6.toNat : Int), .int .u8 (t7.toNat : Int)]) (fun _ => True) (by kernel_rfl) (HQ.out) trivial ?_
    show Go_ _ _ _ _ _ _ _ _ _ _ (World.drew _)
    refine Go_.take (i := 0) (oi := ⟨some 99, Op.load 26 (Operand.tmp 16), 26, _, _, none⟩) (v := ?_) rfl (by kernel_rfl) (by kernel_rfl) (by kernel_rfl) rfl (fun _ _ _ h => h) (Or.inl ⟨by rfl, ?_⟩) ?_
    rotate_left; · intro w0 hS; obtain ⟨⟨hH, hZ0, hS4, hBB, hW⟩, hT8⟩ : SxS w k [.int .i64 (y : Int), .int .i64 (P : Int), .bool ((y : Int) == 3), .slice none 0 0] (some ⟨b, o, none⟩) l w0 ∧ Holds w0 (w7.heap.size) 26 [.int .u8 (t0.toNat : Int), .int .u8 (t1.toNat : Int), .int .u8 (s2.toNat : Int), .int .u8 (t3.toNat : Int), .int .u8 (t4.toNat : Int), .int .u8 (t5.toNat : Int), .int .u8 (t6.toNat : Int), .int .u8 (t7.toNat : Int)] := hS; have h8 := hH.eight; have h4 := hS4.four; have ht8 := hT8.eight; have hu8 := bts_8 (i := t2 + n) hBB (by omega) hU2; go_simp; try with_reducible rfl
    try simp only [Act.put, List.setIfInBounds_toArray, List.set_cons_zero, List.set_cons_succ]
    refine Go_.take (i := 1) (oi := ⟨some 100, Op.move (Operand.tmp 1), 24, _, _, none⟩) (v := ?_) rfl (by kernel_rfl) (by kernel_rfl) (by kernel_rfl) rfl (fun _ _ _ h => h) (Or.inl ⟨by rfl, ?_⟩) ?_
    rotate_left; · intro w0 _; go_simp; try with_reducible rfl
    try simp only [Act.put, List.setIfInBounds_toArray, List.set_cons_zero, List.set_cons_succ]
    refine Go_.take (i := 2) (oi := ⟨some 101, Op.move (Operand.tmp 15), 3, _, _, none⟩) (v := ?_) rfl (by kernel_rfl) (by kernel_rfl) (by kernel_rfl) rfl (fun _ _ _ h => h) (Or.inl ⟨by rfl, ?_⟩) ?_
    rotate_left; · intro w0 _; go_simp; try with_reducible rfl
    try simp only [Act.put, List.setIfInBounds_toArray, List.set_cons_zero, List.set_cons_succ]
    refine Go_.take (i := 3) (oi := ⟨some 102, Op.move (Operand.tmp 15), 3, _, _, none⟩) (v := ?_) rfl (by kernel_rfl) (by kernel_rfl) (by kernel_rfl) rfl (fun _ _ _ h => h) (Or.inl ⟨by rfl, ?_⟩) ?_
    rotate_left; · intro w0 _; go_simp; try with_reducible rfl
    try simp only [Act.put, List.setIfInBounds_toArray, List.set_cons_zero, List.set_cons_succ]
    refine Go_.take (i := 4) (oi := ⟨some 103, Op.binOp BinOp.add 3 (Operand.tmp 102) (Operand.const (Value.int IntKind.i64 8)) 3, 3, _, _, none⟩) (v := ?_) rfl (by kernel_rfl) (by kernel_rfl) (by kernel_rfl) rfl (fun _ _ _ h => h) (Or.inl ⟨by rfl, ?_⟩) ?_
    rotate_left; · intro w0 _; go_simp; try with_reducible rfl
    try simp only [Act.put, List.setIfInBounds_toArray, List.set_cons_zero, List.set_cons_succ]
    refine Go_.take (i := 5) (oi := ⟨some 104, Op.slice 24 (Operand.tmp 100) (some (Operand.tmp 101)) (some (Operand.tmp 103)) none, 24, _, _, none⟩) (v := ?_) rfl (by kernel_rfl) (by kernel_rfl) (by kernel_rfl) rfl (fun _ _ _ h => h) (Or.inl ⟨by rfl, ?_⟩) ?_
    rotate_left; · intro w0 _; go_simp; try with_reducible rfl
    try simp only [Act.put, List.setIfInBounds_toArray, List.set_cons_zero, List.set_cons_succ]
    refine Go_.take (i := 6) (oi := ⟨some 105, Op.sliceToArrayPointer 26 (Operand.tmp 104), 0, _, _, none⟩) (v := ?_) rfl (by kernel_rfl) (by kernel_rfl) (by kernel_rfl) rfl (fun _ _ _ h => h) (Or.inl ⟨by rfl, ?_⟩) ?_
    rotate_left; · intro w0 _; go_simp; try with_reducible rfl
    try simp only [Act.put, List.setIfInBounds_toArray, List.set_cons_zero, List.set_cons_succ]
    refine Go_.take (i := 7) (oi := ⟨some 106, Op.load 26 (Operand.tmp 105), 26, _, _, none⟩) (v := ?_) rfl (by kernel_rfl) (by kernel_rfl) (by kernel_rfl) rfl (fun _ _ _ h => h) (Or.inl ⟨by rfl, ?_⟩) ?_
    rotate_left; · intro w0 hS; obtain ⟨⟨hH, hZ0, hS4, hBB, hW⟩, hT8⟩ : SxS w k [.int .i64 (y : Int), .int .i64 (P : Int), .bool ((y : Int) == 3), .slice none 0 0] (some ⟨b, o, none⟩) l w0 ∧ Holds w0 (w7.heap.size) 26 [.int .u8 (t0.toNat : Int), .int .u8 (t1.toNat : Int), .int .u8 (s2.toNat : Int), .int .u8 (t3.toNat : Int), .int .u8 (t4.toNat : Int), .int .u8 (t5.toNat : Int), .int .u8 (t6.toNat : Int), .int .u8 (t7.toNat : Int)] := hS; have h8 := hH.eight; have h4 := hS4.four; have ht8 := hT8.eight; have hu8 := bts_8 (i := t2 + n) hBB (by omega) hU2; go_simp; try with_reducible rfl
    try simp only [Act.put, List.setIfInBounds_toArray, List.set_cons_zero, List.set_cons_succ]
    refine Go_.step (i := 8) (o := ⟨some 107, Op.call { callee := Callee.value (Operand.func 29), args := #[Operand.tmp 99, Operand.tmp 106], argTypes := #[26, 26] }, 4, _, _, none⟩) (by kernel_rfl) rfl (fun K hT hK => ?_)
    replace hT := hT.1
    rw [if_pos (by rfl)]
    go_simp
    refine (sx_same _ _ _ _ _ _ _ _ _ _ _ _ _ _ _ _ _ _ hTT hUU false hd2 _).mono ?_
    rintro e w9 ⟨rfl, hb9⟩
    refine hK.out _ _ (Till.of ⟨SxS.keep hT.1 hb9, hT.2.below hb9 hT.2.lt⟩) ?_
    clear hT hK K
    refine Go_.take (i := 9) (oi := ⟨some 108, Op.unOp UnOp.not 4 (Operand.tmp 107), 4, _, _, none⟩) (v := ?_) rfl (by kernel_rfl) (by kernel_rfl) (by kernel_rfl) rfl (fun _ _ _ h => h) (Or.inl ⟨by rfl, ?_⟩) ?_
    rotate_left; · intro w0 _; go_simp; try with_reducible rfl
    try simp only [Act.put, List.setIfInBounds_toArray, List.set_cons_zero, List.set_cons_succ]
    refine Go_.doneA (by kernel_rfl) (fun hA2 => ?_)
    have HP := Lib.hid hA2.1
    have hzf := hA2.1.zh.fourFree
    have hz4 := hA2.1.zh.four
    have hs4 := hA2.1.sh.four
    have hbW := hA2.1.wh
    have hp1 := hA2.1.sh.lt
    clear hA2
    go_wp2_with fail
    have hzs := (put4v (v0 := .int .i64 0) (v1 := .int .i64 0) (v2 := .bool false) (v3 := .slice none 0 0) HP.out.zh).four
    exact bodyPost_ret (v := .tuple #[zseg, .int .i64 at_, .int .i64 4]) (by simp [results, Try.results59, go_sem, zseg, hzs]) rfl ⟨rfl, below4v hbW (by omega)⟩
  · replace hT := hT.1
    rw [if_pos (by rfl)]
    refine wp_al26 rfl ?_
    intro w8 h8z hb8
    have hl8 := hT.sh.lt
    have hlb := hbl hT
    first | (change Holds w8 wq.heap.size 26 _ at h8z; change _ < wq.heap.size at hl8; change ∀ b9 o9, _ = _ → b9 ≠ wq.heap.size at hlb) | skip
    refine hK.out _ _ (Till.of (SxS.keep hT hb8)) ?_
    clear hT hK K
    refine Go_.step (i := 7) (o := ⟨some 98, Op.call { callee := Callee.value (Operand.func 25), args := #[Operand.tmp 91, Operand.tmp 93, Operand.tmp 97], argTypes := #[28, 3, 24] }, 26, _, _, none⟩) (by kernel_rfl) rfl (fun K hT hK => ?_)
    replace hT := hT.1
    rw [if_pos (by rfl)]
    go_simp
    refine (sx_of k P _ T _ (c - at_) hTl _ _ _ _ _ _ _ _ hTT (by omega) _ (hT2.out ▸ (hT.bh.part (by omega) at_ (t2 + n - at_) (by omega)))).mono ?_
    rintro e w7 ⟨rfl, hb7⟩
    refine hK.out _ _ (Till.of (SxS.keep hT hb7)) ?_
    clear hT hK K
    refine Go_.step (i := 9) (o := ⟨none, Op.store 26 (Operand.tmp 16) (Operand.tmp 98), 0, _, _, none⟩) (by kernel_rfl) rfl (fun K hT hK => ?_)
    replace hT := hT.1
    rw [if_pos (by rfl)]
    refine with_holds (t := 26) (by first | exact h8z | exact h8z.below hb7 h8z.lt) (fun hh => ?_)
    have z8 := hh.eight
    have zf := hh.eightFree
    have hS8 := set8v (v0 := .int .u8 (t0.toNat : Int)) (v1 := .int .u8 (t1.toNat : Int)) (v2 := .int .u8 (s2.toNat : Int)) (v3 := .int .u8 (t3.toNat : Int)) (v4 := .int .u8 (t4.toNat : Int)) (v5 := .int .u8 (t5.toNat : Int)) (v6 := .int .u8 (t6.toNat : Int)) (v7 := .int .u8 (t7.toNat : Int)) hh
    clear hh
    go_simp
    refine hK.out _ _ (Till.of (SxS.set hT hl8 hlb)) ?_
    clear hT hK K
    refine Go_.doneA (by kernel_rfl) (fun hA => ?_)
    clear hlb h8z hb8 hb7 z8 zf
    refine two_worlds (A := fun w' => SxS w k [.int .i64 (y : Int), .int .i64 (P : Int), .bool ((y : Int) == 3), .slice none 0 0] (some ⟨b, o, none⟩) l w') (B := fun w' => Holds w' (wq.heap.size) 26 [.int .u8 (t0.toNat : Int), .int .u8 (t1.toNat : Int), .int .u8 (s2.toNat : Int), .int .u8 (t3.toNat : Int), .int .u8 (t4.toNat : Int), .int .u8 (t5.toNat : Int), .int .u8 (t6.toNat : Int), .int .u8 (t7.toNat : Int)]) hA hS8 (fun wx hA hS9 => ?_)
    have HQ := Lib.hid (And.intro (SxS.keep hA (Below.refl _ _).drew) (hS9.drew))
    clear hA hS8 hS9
    go_wp2_with fail
    have hm1 : IntKind.i64.wrap ((t2 : Int) + (n : Int) + 8) = (t2 : Int) + (n : Int) + 8 := by simp [IntKind.wrap, IntKind.bits, IntKind.signed]; omega
    have hm2 : 0 ≤ (t2 : Int) + (n : Int) + 8 ∧ (t2 : Int) + (n : Int) + 8 ≤ (c : Int) := by omega
    have hm3 : ((t2 : Int) + (n : Int) + 8).toNat = t2 + n + 8 := by omega
    have hm4 : ¬ c = t2 + n := by omega
    have hm5 : (t2 : Int) + (n : Int) ≤ (t2 : Int) + (n : Int) + 8 := by omega
    have hm6 : t2 + n + 8 - (t2 + n) = 8 := by omega
    have harr : ∀ c9 w9, (Instr.arrayAt 26 (.slice (some ⟨b, o + (t2 + n), none⟩) 8 c9)).run Try.prog w9 = .ok (.pointer (some ⟨b, o + (t2 + n), none⟩)) w9 := fun c9 w9 => run_arrayAt (P := Try.prog) w9 26 5 8 _ 8 c9 Try.underlying26 (Nat.le_refl _)
    refine wp_region_till 10 (fun w' => SxS w k [.int .i64 (y : Int), .int .i64 (P : Int), .bool ((y : Int) == 3), .slice none 0 0] (some ⟨b, o, none⟩) l w' ∧ Holds w' (wq.heap.size) 26 [.int .u8 (t0.toNat : Int), .int .u8 (t1.toNat : Int), .int .u8 (s2.toNat : Int), .int .u8 (t3.toNat : Int), .int .u8 (t4.toNat : Int), .int .u8 (t5.toNat : Int), .int .u8 (t6.toNat : Int), .int .u8 (t7.toNat : Int)]) (fun _ => True) (by kernel_rfl) (HQ.out) trivial ?_
    show Go_ _ _ _ _ _ _ _ _ _ _ (World.drew _)
    refine Go_.take (i := 0) (oi := ⟨some 99, Op.load 26 (Operand.tmp 16), 26, _, _, none⟩) (v := ?_) rfl (by kernel_rfl) (by kernel_rfl) (by kernel_rfl) rfl (fun _ _ _ h => h) (Or.inl ⟨by rfl, ?_⟩) ?_
    rotate_left; · intro w0 hS; obtain ⟨⟨hH, hZ0, hS4, hBB, hW⟩, hT8⟩ : SxS w k [.int .i64 (y : Int), .int .i64 (P : Int), .bool ((y : Int) == 3), .slice none 0 0] (some ⟨b, o, none⟩) l w0 ∧ Holds w0 (wq.heap.size) 26 [.int .u8 (t0.toNat : Int), .int .u8 (t1.toNat : Int), .int .u8 (s2.toNat : Int), .int .u8 (t3.toNat : Int), .int .u8 (t4.toNat : Int), .int .u8 (t5.toNat : Int), .int .u8 (t6.toNat : Int), .int .u8 (t7.toNat : Int)] := hS; have h8 := hH.eight; have h4 := hS4.four; have ht8 := hT8.eight; have hu8 := bts_8 (i := t2 + n) hBB (by omega) hU2; go_simp; try with_reducible rfl
    try simp only [Act.put, List.setIfInBounds_toArray, List.set_cons_zero, List.set_cons_succ]
    refine Go_.take (i := 1) (oi := ⟨some 100, Op.move (Operand.tmp 1), 24, _, _, none⟩) (v := ?_) rfl (by kernel_rfl) (by kernel_rfl) (by kernel_rfl) rfl (fun _ _ _ h => h) (Or.inl ⟨by rfl, ?_⟩) ?_
    rotate_left; · intro w0 _; go_simp; try with_reducible rfl
    try simp only [Act.put, List.setIfInBounds_toArray, List.set_cons_zero, List.set_cons_succ]
    refine Go_.take (i := 2) (oi := ⟨some 101, Op.move (Operand.tmp 15), 3, _, _, none⟩) (v := ?_) rfl (by kernel_rfl) (by kernel_rfl) (by kernel_rfl) rfl (fun _ _ _ h => h) (Or.inl ⟨by rfl, ?_⟩) ?_
    rotate_left; · intro w0 _; go_simp; try with_reducible rfl
    try simp only [Act.put, List.setIfInBounds_toArray, List.set_cons_zero, List.set_cons_succ]
    refine Go_.take (i := 3) (oi := ⟨some 102, Op.move (Operand.tmp 15), 3, _, _, none⟩) (v := ?_) rfl (by kernel_rfl) (by kernel_rfl) (by kernel_rfl) rfl (fun _ _ _ h => h) (Or.inl ⟨by rfl, ?_⟩) ?_
    rotate_left; · intro w0 _; go_simp; try with_reducible rfl
    try simp only [Act.put, List.setIfInBounds_toArray, List.set_cons_zero, List.set_cons_succ]
    refine Go_.take (i := 4) (oi := ⟨some 103, Op.binOp BinOp.add 3 (Operand.tmp 102) (Operand.const (Value.int IntKind.i64 8)) 3, 3, _, _, none⟩) (v := ?_) rfl (by kernel_rfl) (by kernel_rfl) (by kernel_rfl) rfl (fun _ _ _ h => h) (Or.inl ⟨by rfl, ?_⟩) ?_
    rotate_left; · intro w0 _; go_simp; try with_reducible rfl
    try simp only [Act.put, List.setIfInBounds_toArray, List.set_cons_zero, List.set_cons_succ]
    refine Go_.take (i := 5) (oi := ⟨some 104, Op.slice 24 (Operand.tmp 100) (some (Operand.tmp 101)) (some (Operand.tmp 103)) none, 24, _, _, none⟩) (v := ?_) rfl (by kernel_rfl) (by kernel_rfl) (by kernel_rfl) rfl (fun _ _ _ h => h) (Or.inl ⟨by rfl, ?_⟩) ?_
    rotate_left; · intro w0 _; go_simp; try with_reducible rfl
    try simp only [Act.put, List.setIfInBounds_toArray, List.set_cons_zero, List.set_cons_succ]
    refine Go_.take (i := 6) (oi := ⟨some 105, Op.sliceToArrayPointer 26 (Operand.tmp 104), 0, _, _, none⟩) (v := ?_) rfl (by kernel_rfl) (by kernel_rfl) (by kernel_rfl) rfl (fun _ _ _ h => h) (Or.inl ⟨by rfl, ?_⟩) ?_
    rotate_left; · intro w0 _; go_simp; try with_reducible rfl
    try simp only [Act.put, List.setIfInBounds_toArray, List.set_cons_zero, List.set_cons_succ]
    refine Go_.take (i := 7) (oi := ⟨some 106, Op.load 26 (Operand.tmp 105), 26, _, _, none⟩) (v := ?_) rfl (by kernel_rfl) (by kernel_rfl) (by kernel_rfl) rfl (fun _ _ _ h => h) (Or.inl ⟨by rfl, ?_⟩) ?_
    rotate_left; · intro w0 hS; obtain ⟨⟨hH, hZ0, hS4, hBB, hW⟩, hT8⟩ : SxS w k [.int .i64 (y : Int), .int .i64 (P : Int), .bool ((y : Int) == 3), .slice none 0 0] (some ⟨b, o, none⟩) l w0 ∧ Holds w0 (wq.heap.size) 26 [.int .u8 (t0.toNat : Int), .int .u8 (t1.toNat : Int), .int .u8 (s2.toNat : Int), .int .u8 (t3.toNat : Int), .int .u8 (t4.toNat : Int), .int .u8 (t5.toNat : Int), .int .u8 (t6.toNat : Int), .int .u8 (t7.toNat : Int)] := hS; have h8 := hH.eight; have h4 := hS4.four; have ht8 := hT8.eight; have hu8 := bts_8 (i := t2 + n) hBB (by omega) hU2; go_simp; try with_reducible rfl
    try simp only [Act.put, List.setIfInBounds_toArray, List.set_cons_zero, List.set_cons_succ]
    refine Go_.step (i := 8) (o := ⟨some 107, Op.call { callee := Callee.value (Operand.func 29), args := #[Operand.tmp 99, Operand.tmp 106], argTypes := #[26, 26] }, 4, _, _, none⟩) (by kernel_rfl) rfl (fun K hT hK => ?_)
    replace hT := hT.1
    rw [if_pos (by rfl)]
    go_simp
    refine (sx_same _ _ _ _ _ _ _ _ _ _ _ _ _ _ _ _ _ _ hTT hUU false hd2 _).mono ?_
    rintro e w9 ⟨rfl, hb9⟩
    refine hK.out _ _ (Till.of ⟨SxS.keep hT.1 hb9, hT.2.below hb9 hT.2.lt⟩) ?_
    clear hT hK K
    refine Go_.take (i := 9) (oi := ⟨some 108, Op.unOp UnOp.not 4 (Operand.tmp 107), 4, _, _, none⟩) (v := ?_) rfl (by kernel_rfl) (by kernel_rfl) (by kernel_rfl) rfl (fun _ _ _ h => h) (Or.inl ⟨by rfl, ?_⟩) ?_
    rotate_left; · intro w0 _; go_simp; try with_reducible rfl
    try simp only [Act.put, List.setIfInBounds_toArray, List.set_cons_zero, List.set_cons_succ]
    refine Go_.doneA (by kernel_rfl) (fun hA2 => ?_)
    have HP := Lib.hid hA2.1
    have hzf := hA2.1.zh.fourFree
    have hz4 := hA2.1.zh.four
    have hs4 := hA2.1.sh.four
    have hbW := hA2.1.wh
    have hp1 := hA2.1.sh.lt
    clear hA2
    go_wp2_with fail
    have hzs := (put4v (v0 := .int .i64 0) (v1 := .int .i64 0) (v2 := .bool false) (v3 := .slice none 0 0) HP.out.zh).four
    exact bodyPost_ret (v := .tuple #[zseg, .int .i64 at_, .int .i64 4]) (by simp [results, Try.results59, go_sem, zseg, hzs]) rfl ⟨rfl, below4v hbW (by omega)⟩
end Go.Proofs.Ytcdklmicbbcknaa
