/-
  The reference's Tag: what it comes to, by walks of its text (printed by rt.py).
-/
import Derived.Test.YtcdklmicbbcknaaRx
import Derived.Test.YtcdklmicbbcknaaTo
import Derived.Test.YtcdklmicbbcknaaEs
import Derived.Test.YtcdklmicbbcknaaRp
namespace Go.Proofs.Ytcdklmicbbcknaa
open Go Go.RowKit
theorem mkStr_app (a b : List UInt8) : mkStr a ++ mkStr b = mkStr (a ++ b) := by
  apply ByteArray.ext
  simp [mkStr, ByteArray.data_append]
theorem Holds.set8 {w : World} {g : Nat} {t : TypeId} {K m : K8} (hg : Holds w g t K.vals) : Holds ((((((((w.setCell ⟨g, 0, none⟩ (.int .u32 (W m.k0))).setCell ⟨g, 1, none⟩ (.int .u32 (W m.k1))).setCell ⟨g, 2, none⟩ (.int .u32 (W m.k2))).setCell ⟨g, 3, none⟩ (.int .u32 (W m.k3))).setCell ⟨g, 4, none⟩ (.int .u32 (W m.k4))).setCell ⟨g, 5, none⟩ (.int .u32 (W m.k5))).setCell ⟨g, 6, none⟩ (.int .u32 (W m.k6))).setCell ⟨g, 7, none⟩ (.int .u32 (W m.k7))) g t [.int .u32 (W m.k0), .int .u32 (W m.k1), .int .u32 (W m.k2), .int .u32 (W m.k3), .int .u32 (W m.k4), .int .u32 (W m.k5), .int .u32 (W m.k6), .int .u32 (W m.k7)] :=
  ((((((((hg.set 0 (.int .u32 (W m.k0))).set 1 (.int .u32 (W m.k1))).set 2 (.int .u32 (W m.k2))).set 3 (.int .u32 (W m.k3))).set 4 (.int .u32 (W m.k4))).set 5 (.int .u32 (W m.k5))).set 6 (.int .u32 (W m.k6))).set 7 (.int .u32 (W m.k7)))
theorem below_set8 {w0 w : World} {g B : Nat} {m : K8} (h : Below B w0 w) (hb : B ≤ g) : Below B w0 ((((((((w.setCell ⟨g, 0, none⟩ (.int .u32 (W m.k0))).setCell ⟨g, 1, none⟩ (.int .u32 (W m.k1))).setCell ⟨g, 2, none⟩ (.int .u32 (W m.k2))).setCell ⟨g, 3, none⟩ (.int .u32 (W m.k3))).setCell ⟨g, 4, none⟩ (.int .u32 (W m.k4))).setCell ⟨g, 5, none⟩ (.int .u32 (W m.k5))).setCell ⟨g, 6, none⟩ (.int .u32 (W m.k6))).setCell ⟨g, 7, none⟩ (.int .u32 (W m.k7))) :=
  (Below.setCell (Below.setCell (Below.setCell (Below.setCell (Below.setCell (Below.setCell (Below.setCell (Below.setCell h hb (.int .u32 (W m.k0))) hb (.int .u32 (W m.k1))) hb (.int .u32 (W m.k2))) hb (.int .u32 (W m.k3))) hb (.int .u32 (W m.k4))) hb (.int .u32 (W m.k5))) hb (.int .u32 (W m.k6))) hb (.int .u32 (W m.k7)))
attribute [local go_sem ↓] run_str'
set_option maxRecDepth 20000 in
set_option maxHeartbeats 4000000 in
theorem four_any (x : BitVec 32) (w : World) : Calls Try.prog 62 #[.int .u32 (W x)] w fun e w' => e = .returned (.string (mkStr (le4 x))) ∧ Below w.heap.size w w' := by
  have h4 := bts4 w x
  have hb : Below w.heap.size w (w.alloc (.cells #[.int .u8 (W x % 256), .int .u8 (W x / 256 % 256), .int .u8 (W x / 65536 % 256), .int .u8 (W x / 16777216 % 256)] 5)) := (Below.refl _ _).alloc (Nat.le_refl _) _
  have hs : ∀ c, (convert 24 9 (.slice (some ⟨w.heap.size, 0, none⟩) 4 c)).run Try.prog (w.alloc (.cells #[.int .u8 (W x % 256), .int .u8 (W x / 256 % 256), .int .u8 (W x / 65536 % 256), .int .u8 (W x / 16777216 % 256)] 5)) = .ok (.string (mkStr (le4 x))) (w.alloc (.cells #[.int .u8 (W x % 256), .int .u8 (W x / 256 % 256), .int .u8 (W x / 65536 % 256), .int .u8 (W x / 16777216 % 256)] 5)) := fun c => run_str h4 c
  go_enter Try.func62, Try.ntmps62
  go_wp2_with fail
  go_ret
  exact ⟨rfl, hb⟩
theorem rsum_mk (r s : BitVec 32) (l : List UInt8) (w : World) (hl : l.length ≤ 4294967296) :
    Calls Try.prog 27 #[.int .u32 (W r), .int .u32 (W s), .string (mkStr l)] w fun e w' => e = .returned (.int .u32 (W (sumW r s l))) ∧ w = w' := rsum_any r s (mkStr l) w hl
theorem le4_len (x : BitVec 32) : (le4 x).length = 4 := rfl
attribute [local go_sem] W_add W_sub bits_xor_W bits_or_W mkStr_app mkStr_size le4_len
set_option maxHeartbeats 4000000 in
theorem rtag_any (k : K8) (p : Int) (l : List UInt8) (w : World) (hl : l.length ≤ 100000) :
    Calls Try.prog 28 #[.agg k.vals.toArray, .int .i64 p, .string (mkStr l)] w fun e w' => e = .returned (.string (mkStr (tagL k p l))) ∧ Below w.heap.size w w' := by
  have hpw : (p % 4294967296) = W (BitVec.ofInt 32 p) := (W_ofInt p).symm
  have hk0 : Holds (w.alloc (.cells k.vals.toArray 32)) w.heap.size 32 k.vals := Holds.new w 32 _
  have hbw0 : Below w.heap.size w (w.alloc (.cells k.vals.toArray 32)) := (Below.refl _ _).alloc (Nat.le_refl _) _
  have hk8 := hk0.eight
  have hkf := hk0.eightFree
  unfold K8.vals at *
  go_enter Try.func28, Try.ntmps28
  go_wp2_with fail
  refine (rmix_any (tagK k p) _).mono ?_
  rintro e w1 ⟨rfl, hb1⟩
  have hk1 := (Holds.newAt w 32 (tagK k p).vals (n := w.heap.size) rfl).below hb1 (by simp)
  have hbw := Below.trans ((Below.refl _ _).alloc (Nat.le_refl _) (.cells (tagK k p).vals.toArray 32)) (hb1.mono (by simp))
  have hk18 := hk1.eight
  have hk1f := hk1.eightFree
  clear hb1 hbw0 hk0 hk8 hkf
  generalize hm : mix (tagK k p) = m at *
  have HM := Lib.hid hm
  clear hm
  have hg1 : Holds ((((((((w1.setCell ⟨w.heap.size, 0, none⟩ (.int .u32 (W m.k0))).setCell ⟨w.heap.size, 1, none⟩ (.int .u32 (W m.k1))).setCell ⟨w.heap.size, 2, none⟩ (.int .u32 (W m.k2))).setCell ⟨w.heap.size, 3, none⟩ (.int .u32 (W m.k3))).setCell ⟨w.heap.size, 4, none⟩ (.int .u32 (W m.k4))).setCell ⟨w.heap.size, 5, none⟩ (.int .u32 (W m.k5))).setCell ⟨w.heap.size, 6, none⟩ (.int .u32 (W m.k6))).setCell ⟨w.heap.size, 7, none⟩ (.int .u32 (W m.k7))) w.heap.size 32 [.int .u32 (W m.k0), .int .u32 (W m.k1), .int .u32 (W m.k2), .int .u32 (W m.k3), .int .u32 (W m.k4), .int .u32 (W m.k5), .int .u32 (W m.k6), .int .u32 (W m.k7)] := Holds.set8 (K := tagK k p) hk1
  have hb2 : Below w.heap.size w ((((((((w1.setCell ⟨w.heap.size, 0, none⟩ (.int .u32 (W m.k0))).setCell ⟨w.heap.size, 1, none⟩ (.int .u32 (W m.k1))).setCell ⟨w.heap.size, 2, none⟩ (.int .u32 (W m.k2))).setCell ⟨w.heap.size, 3, none⟩ (.int .u32 (W m.k3))).setCell ⟨w.heap.size, 4, none⟩ (.int .u32 (W m.k4))).setCell ⟨w.heap.size, 5, none⟩ (.int .u32 (W m.k5))).setCell ⟨w.heap.size, 6, none⟩ (.int .u32 (W m.k6))).setCell ⟨w.heap.size, 7, none⟩ (.int .u32 (W m.k7))) := below_set8 hbw (Nat.le_refl _)
  unfold K8.vals
  go_wp2_with fail
  clear hk18 hk1f hk1 hbw
  generalize ((((((((w1.setCell ⟨w.heap.size, 0, none⟩ (.int .u32 (W m.k0))).setCell ⟨w.heap.size, 1, none⟩ (.int .u32 (W m.k1))).setCell ⟨w.heap.size, 2, none⟩ (.int .u32 (W m.k2))).setCell ⟨w.heap.size, 3, none⟩ (.int .u32 (W m.k3))).setCell ⟨w.heap.size, 4, none⟩ (.int .u32 (W m.k4))).setCell ⟨w.heap.size, 5, none⟩ (.int .u32 (W m.k5))).setCell ⟨w.heap.size, 6, none⟩ (.int .u32 (W m.k6))).setCell ⟨w.heap.size, 7, none⟩ (.int .u32 (W m.k7))) = wx at hg1 hb2 ⊢
  have HS := Lib.hid (And.intro hg1.drew hb2.drew)
  clear hg1 hb2
  refine wp_region_till 16 (fun w' => Holds w' w.heap.size 32 [.int .u32 (W m.k0), .int .u32 (W m.k1), .int .u32 (W m.k2), .int .u32 (W m.k3), .int .u32 (W m.k4), .int .u32 (W m.k5), .int .u32 (W m.k6), .int .u32 (W m.k7)] ∧ Below w.heap.size w w') (fun _ => True) (by kernel_rfl) (HS.out) trivial ?_
  show Go_ _ _ _ _ _ _ _ _ _ _ (World.drew _)
  refine Go_.take (i := 0) (oi := ⟨some 15, Op.indexAddr 32 (Operand.tmp 3) (Operand.const (Value.int IntKind.i64 0)), 0, _, _, none⟩) (v := ?_) rfl (by kernel_rfl) (by kernel_rfl) (by kernel_rfl) rfl (fun _ _ _ h => h) (Or.inl ⟨by rfl, ?_⟩) ?_
  rotate_left; · intro w0 _; go_simp; try with_reducible rfl
  try simp only [Act.put, List.setIfInBounds_toArray, List.set_cons_zero, List.set_cons_succ]
  refine Go_.take (i := 1) (oi := ⟨some 16, Op.load 22 (Operand.tmp 15), 22, _, _, none⟩) (v := ?_) rfl (by kernel_rfl) (by kernel_rfl) (by kernel_rfl) rfl (fun _ _ _ h => h) (Or.inl ⟨by rfl, ?_⟩) ?_
  rotate_left; · intro w0 hS; obtain ⟨hH, hW⟩ := hS; have h8 := hH.eight; go_simp; try with_reducible rfl
  try simp only [Act.put, List.setIfInBounds_toArray, List.set_cons_zero, List.set_cons_succ]
  refine Go_.take (i := 2) (oi := ⟨some 17, Op.indexAddr 32 (Operand.tmp 3) (Operand.const (Value.int IntKind.i64 1)), 0, _, _, none⟩) (v := ?_) rfl (by kernel_rfl) (by kernel_rfl) (by kernel_rfl) rfl (fun _ _ _ h => h) (Or.inl ⟨by rfl, ?_⟩) ?_
  rotate_left; · intro w0 _; go_simp; try with_reducible rfl
  try simp only [Act.put, List.setIfInBounds_toArray, List.set_cons_zero, List.set_cons_succ]
  refine Go_.take (i := 3) (oi := ⟨some 18, Op.load 22 (Operand.tmp 17), 22, _, _, none⟩) (v := ?_) rfl (by kernel_rfl) (by kernel_rfl) (by kernel_rfl) rfl (fun _ _ _ h => h) (Or.inl ⟨by rfl, ?_⟩) ?_
  rotate_left; · intro w0 hS; obtain ⟨hH, hW⟩ := hS; have h8 := hH.eight; go_simp; try with_reducible rfl
  try simp only [Act.put, List.setIfInBounds_toArray, List.set_cons_zero, List.set_cons_succ]
  refine Go_.take (i := 4) (oi := ⟨some 19, Op.move (Operand.tmp 2), 9, _, _, none⟩) (v := ?_) rfl (by kernel_rfl) (by kernel_rfl) (by kernel_rfl) rfl (fun _ _ _ h => h) (Or.inl ⟨by rfl, ?_⟩) ?_
  rotate_left; · intro w0 _; go_simp; try with_reducible rfl
  try simp only [Act.put, List.setIfInBounds_toArray, List.set_cons_zero, List.set_cons_succ]
  refine Go_.take (i := 7) (oi := ⟨some 22, Op.indexAddr 32 (Operand.tmp 3) (Operand.const (Value.int IntKind.i64 2)), 0, _, _, none⟩) (v := ?_) rfl (by kernel_rfl) (by kernel_rfl) (by kernel_rfl) rfl (fun _ _ _ h => h) (Or.inl ⟨by rfl, ?_⟩) ?_
  rotate_left; · intro w0 _; go_simp; try with_reducible rfl
  try simp only [Act.put, List.setIfInBounds_toArray, List.set_cons_zero, List.set_cons_succ]
  refine Go_.take (i := 8) (oi := ⟨some 23, Op.load 22 (Operand.tmp 22), 22, _, _, none⟩) (v := ?_) rfl (by kernel_rfl) (by kernel_rfl) (by kernel_rfl) rfl (fun _ _ _ h => h) (Or.inl ⟨by rfl, ?_⟩) ?_
  rotate_left; · intro w0 hS; obtain ⟨hH, hW⟩ := hS; have h8 := hH.eight; go_simp; try with_reducible rfl
  try simp only [Act.put, List.setIfInBounds_toArray, List.set_cons_zero, List.set_cons_succ]
  refine Go_.take (i := 9) (oi := ⟨some 24, Op.indexAddr 32 (Operand.tmp 3) (Operand.const (Value.int IntKind.i64 3)), 0, _, _, none⟩) (v := ?_) rfl (by kernel_rfl) (by kernel_rfl) (by kernel_rfl) rfl (fun _ _ _ h => h) (Or.inl ⟨by rfl, ?_⟩) ?_
  rotate_left; · intro w0 _; go_simp; try with_reducible rfl
  try simp only [Act.put, List.setIfInBounds_toArray, List.set_cons_zero, List.set_cons_succ]
  refine Go_.take (i := 10) (oi := ⟨some 25, Op.load 22 (Operand.tmp 24), 22, _, _, none⟩) (v := ?_) rfl (by kernel_rfl) (by kernel_rfl) (by kernel_rfl) rfl (fun _ _ _ h => h) (Or.inl ⟨by rfl, ?_⟩) ?_
  rotate_left; · intro w0 hS; obtain ⟨hH, hW⟩ := hS; have h8 := hH.eight; go_simp; try with_reducible rfl
  try simp only [Act.put, List.setIfInBounds_toArray, List.set_cons_zero, List.set_cons_succ]
  refine Go_.take (i := 11) (oi := ⟨some 26, Op.move (Operand.tmp 2), 9, _, _, none⟩) (v := ?_) rfl (by kernel_rfl) (by kernel_rfl) (by kernel_rfl) rfl (fun _ _ _ h => h) (Or.inl ⟨by rfl, ?_⟩) ?_
  rotate_left; · intro w0 _; go_simp; try with_reducible rfl
  try simp only [Act.put, List.setIfInBounds_toArray, List.set_cons_zero, List.set_cons_succ]
  refine Go_.step (i := 5) (o := ⟨some 20, Op.call { callee := Callee.value (Operand.func 27), args := #[Operand.tmp 16, Operand.tmp 18, Operand.tmp 19], argTypes := #[22, 22, 9] }, 22, _, _, none⟩) (by kernel_rfl) rfl (fun K hT hK => ?_)
  replace hT := hT.1
  rw [if_pos (by rfl)]
  go_simp
  refine (rsum_mk _ _ l _ (by omega)).mono ?_
  rintro e w' ⟨rfl, rfl⟩
  refine hK.out _ _ (Till.of hT) ?_
  clear hT hK K
  refine Go_.step (i := 6) (o := ⟨some 21, Op.call { callee := Callee.value (Operand.func 62), args := #[Operand.tmp 20], argTypes := #[22] }, 9, _, _, none⟩) (by kernel_rfl) rfl (fun K hT hK => ?_)
  replace hT := hT.1
  rw [if_pos (by rfl)]
  go_simp
  refine (four_any _ _).mono ?_
  rintro e w' ⟨rfl, hbx⟩
  refine hK.out _ _ (Till.of ⟨hT.1.below hbx hT.1.lt, hT.2.trans (hbx.mono hT.2.size)⟩) ?_
  clear hT hK K
  refine Go_.step (i := 12) (o := ⟨some 27, Op.call { callee := Callee.value (Operand.func 27), args := #[Operand.tmp 23, Operand.tmp 25, Operand.tmp 26], argTypes := #[22, 22, 9] }, 22, _, _, none⟩) (by kernel_rfl) rfl (fun K hT hK => ?_)
  replace hT := hT.1
  rw [if_pos (by rfl)]
  go_simp
  refine (rsum_mk _ _ l _ (by omega)).mono ?_
  rintro e w' ⟨rfl, rfl⟩
  refine hK.out _ _ (Till.of hT) ?_
  clear hT hK K
  refine Go_.step (i := 13) (o := ⟨some 28, Op.call { callee := Callee.value (Operand.func 62), args := #[Operand.tmp 27], argTypes := #[22] }, 9, _, _, none⟩) (by kernel_rfl) rfl (fun K hT hK => ?_)
  replace hT := hT.1
  rw [if_pos (by rfl)]
  go_simp
  refine (four_any _ _).mono ?_
  rintro e w' ⟨rfl, hbx⟩
  have hfin := hT.2.trans (hbx.mono hT.2.size)
  refine hK.out _ _ (Till.of ⟨hT.1.below hbx hT.1.lt, hT.2.trans (hbx.mono hT.2.size)⟩) ?_
  clear hT hK K
  refine Go_.take (i := 14) (oi := ⟨some 29, Op.binOp BinOp.add 9 (Operand.tmp 21) (Operand.tmp 28) 9, 9, _, _, none⟩) (v := ?_) rfl (by kernel_rfl) (by kernel_rfl) (by kernel_rfl) rfl (fun _ _ _ h => h) (Or.inl ⟨by rfl, ?_⟩) ?_
  rotate_left; · intro w0 _; go_simp; try with_reducible rfl
  try simp only [Act.put, List.setIfInBounds_toArray, List.set_cons_zero, List.set_cons_succ]
  refine Go_.take (i := 15) (oi := ⟨some 6, Op.assign (Operand.tmp 29), 9, _, _, none⟩) (v := ?_) rfl (by kernel_rfl) (by kernel_rfl) (by kernel_rfl) rfl (fun _ _ _ h => h) (Or.inl ⟨by rfl, ?_⟩) ?_
  rotate_left; · intro w0 _; go_simp; try with_reducible rfl
  try simp only [Act.put, List.setIfInBounds_toArray, List.set_cons_zero, List.set_cons_succ]
  refine Go_.done (by kernel_rfl) ?_
  go_wp2
  go_ret
  refine ⟨?_, hfin⟩
  rw [tagL, HM.out]; rfl
end Go.Proofs.Ytcdklmicbbcknaa
