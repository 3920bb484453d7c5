/-
  seal.Get where it fails before the tag: walks of its text.
-/
import Derived.Test.YtcdklmicbbcknaaSl
namespace Go.Proofs.Ytcdklmicbbcknaa
open Go Go.RowKit
def zseg : Value := .agg #[.int .i64 0, .int .i64 0, .bool false, .slice none 0 0]
set_option maxRecDepth 20000 in
set_option maxHeartbeats 8000000 in
theorem sget_1 (k : K8) (A : Option Addr) (l : List UInt8) (c at_ : Nat) (place : Int) (w : World) (hl : l.length ≤ 1000000000) (hB : Bts w A l) (h : at_ = l.length ∨ (at_ < l.length ∧ ((l.getD at_ 0).toNat < 1 ∨ 3 < (l.getD at_ 0).toNat))) :
    Calls Try.prog 59 #[.agg k.vals.toArray, .slice A l.length c, .int .i64 at_, .int .i64 place] w fun e w' => e = .returned (.tuple #[zseg, .int .i64 at_, .int .i64 (if at_ = l.length then 5 else 3)]) ∧ Below w.heap.size w w' := by
  have hb0 : Below w.heap.size w ((w.alloc (.cells k.vals.toArray 28)).alloc (.cells #[.int .i64 0, .int .i64 0, .bool false, .slice none 0 0] 81)) := ((Below.refl _ _).alloc (Nat.le_refl _) _).alloc (by simp) _
  unfold K8.vals at *
  rcases h with rfl | ⟨h, h2⟩
  · rw [if_pos rfl]
    go_enter Try.func59, Try.ntmps59
    go_wp2_with fail
    exact bodyPost_ret (v := .tuple #[zseg, .int .i64 l.length, .int .i64 5]) (by simp [results, Try.results59, go_sem, zseg]) rfl ⟨rfl, hb0⟩
  · rw [if_neg (by omega)]
    have hB2 := ((hB.below hb0).alloc (.cells #[.int .i64 ((l.getD at_ 0).toNat : Int), .int .i64 0, .bool false, .slice none 0 0] 81))
    obtain ⟨b, o, rfl, hbs, hcs⟩ := (hB.below hb0) (by omega)
    have hc := hcs at_ h
    have hyb := UInt8.toNat_lt (l.getD at_ 0)
    generalize (l.getD at_ 0).toNat = y at *
    clear hcs hB2 hB
    have hb1 : Below w.heap.size w ((((w.alloc (.cells #[.int .u32 (W k.k0), .int .u32 (W k.k1), .int .u32 (W k.k2), .int .u32 (W k.k3), .int .u32 (W k.k4), .int .u32 (W k.k5), .int .u32 (W k.k6), .int .u32 (W k.k7)] 28)).alloc (.cells #[.int .i64 0, .int .i64 0, .bool false, .slice none 0 0] 81))).alloc (.cells #[.int .i64 y, .int .i64 0, .bool ((y : Int) == 3), .slice none 0 0] 81)) := hb0.alloc (by simp; omega) _
    rcases h2 with h2 | h2
    all_goals (
      go_enter Try.func59, Try.ntmps59
      go_wp2_with fail
      exact bodyPost_ret (v := .tuple #[zseg, .int .i64 at_, .int .i64 3]) (by simp [results, Try.results59, go_sem, zseg]) rfl ⟨rfl, hb1⟩)
theorem number_z (A : Option Addr) (l : List UInt8) (c at_ most : Nat) (z m : Int) (w : World) (hz : z = at_) (hmz : m = most) (hat : at_ ≤ l.length) (hl : l.length ≤ 1000000000) (hB : Bts w A l) (hm : most ≤ 1048576) (n t cd : Nat) (hN : Hid (numL l at_ most = (n, t, cd))) :
    Calls Try.prog 70 #[.slice A l.length c, .int .i64 z, .int .i64 m] w fun e w' => ∃ z, e = .returned (.tuple #[.int .i64 z, .int .i64 t, .int .i64 cd]) ∧ (cd = 0 → z = n ∧ n ≤ most) ∧ w = w' := by
  subst hz hmz
  exact number_any A l c at_ most w hat hl hB hm n t cd hN
set_option maxRecDepth 20000 in
set_option maxHeartbeats 8000000 in
theorem sget_2 (k : K8) (A : Option Addr) (l : List UInt8) (c at_ : Nat) (place : Int) (w : World) (hl : l.length ≤ 1000000000) (hB : Bts w A l) (h : at_ < l.length) (y : Nat) (hy : Hid ((l.getD at_ 0).toNat = y)) (hy1 : 1 ≤ y) (hy3 : y ≤ 3) (n t cd : Nat) (hN : Hid (numL l (at_ + 1) 1048576 = (n, t, cd))) (hcd : cd ≠ 0) :
    Calls Try.prog 59 #[.agg k.vals.toArray, .slice A l.length c, .int .i64 at_, .int .i64 place] w fun e w' => e = .returned (.tuple #[zseg, .int .i64 at_, .int .i64 cd]) ∧ Below w.heap.size w w' := by
  have hb0 : Below w.heap.size w ((w.alloc (.cells k.vals.toArray 28)).alloc (.cells #[.int .i64 0, .int .i64 0, .bool false, .slice none 0 0] 81)) := ((Below.refl _ _).alloc (Nat.le_refl _) _).alloc (by simp) _
  have hb1 := hb0.alloc (by simp; omega) (.cells #[.int .i64 y, .int .i64 0, .bool ((y : Int) == 3), .slice none 0 0] 81)
  unfold K8.vals at *
  have hB1 := hB.below hb1
  obtain ⟨b, o, rfl, hbs, hcs⟩ := (hB.below hb0) (by omega)
  have hc := hcs at_ h
  rw [hy.out] at hc
  have hcI : ((cd : Int) == 0) = false := beq_eq_false_iff_ne.2 (by omega)
  have HB1 := Lib.hid hB1
  clear hcs hB hB1
  go_enter Try.func59, Try.ntmps59
  go_wp2_with fail
  refine (number_z _ l c (at_ + 1) 1048576 _ _ _ (by omega) (by omega) (by omega) hl HB1.out (by omega) n t cd hN).mono ?_
  rintro e w1 ⟨z, rfl, _, rfl⟩
  go_wp2_with fail
  exact bodyPost_ret (v := .tuple #[zseg, .int .i64 at_, .int .i64 cd]) (by simp [results, Try.results59, go_sem, zseg]) rfl ⟨rfl, hb0.alloc (by simp; omega) _⟩
set_option maxRecDepth 20000 in
set_option maxHeartbeats 8000000 in
theorem sget_3 (k : K8) (A : Option Addr) (l : List UInt8) (c at_ : Nat) (place : Int) (w : World) (hl : l.length ≤ 1000000000) (hB : Bts w A l) (h : at_ < l.length) (y : Nat) (hy : Hid ((l.getD at_ 0).toNat = y)) (hy1 : 1 ≤ y) (hy3 : y ≤ 3) (P t : Nat) (hN : Hid (numL l (at_ + 1) 1048576 = (P, t, 0))) (ht : t ≤ l.length) (n t2 cd : Nat) (hN2 : Hid (numL l t 12100 = (n, t2, cd))) (hcd : cd ≠ 0) :
    Calls Try.prog 59 #[.agg k.vals.toArray, .slice A l.length c, .int .i64 at_, .int .i64 place] w fun e w' => e = .returned (.tuple #[zseg, .int .i64 at_, .int .i64 cd]) ∧ Below w.heap.size w w' := by
  have hb0 : Below w.heap.size w ((w.alloc (.cells k.vals.toArray 28)).alloc (.cells #[.int .i64 0, .int .i64 0, .bool false, .slice none 0 0] 81)) := ((Below.refl _ _).alloc (Nat.le_refl _) _).alloc (by simp) _
  have hb1 := hb0.alloc (by simp; omega) (.cells #[.int .i64 y, .int .i64 0, .bool ((y : Int) == 3), .slice none 0 0] 81)
  have hb2 := hb0.alloc (by simp; omega) (.cells #[.int .i64 y, .int .i64 P, .bool ((y : Int) == 3), .slice none 0 0] 81)
  unfold K8.vals at *
  have hB1 := hB.below hb1
  have hB2 := hB.below hb2
  obtain ⟨b, o, rfl, hbs, hcs⟩ := (hB.below hb0) (by omega)
  have hc := hcs at_ h
  rw [hy.out] at hc
  have HB1 := Lib.hid hB1
  have HB2 := Lib.hid (And.intro hB2 hb2)
  clear hcs hB hB1 hB2 hb2 hb1
  have hcI : ((cd : Int) == 0) = false := beq_eq_false_iff_ne.2 (by omega)
  go_enter Try.func59, Try.ntmps59
  go_wp2_with fail
  refine (number_z _ l c (at_ + 1) 1048576 _ _ _ (by omega) (by omega) (by omega) hl HB1.out (by omega) P t 0 hN).mono ?_
  rintro e w1 ⟨z, rfl, hz, rfl⟩
  obtain ⟨rfl, hPm⟩ := hz rfl
  clear hz
  go_wp2_with fail
  refine (number_z _ l c t 12100 _ _ _ rfl rfl ht hl HB2.out.1 (by omega) _ _ _ hN2).mono ?_
  rintro e w1 ⟨z2, rfl, hz2, rfl⟩
  clear hz2
  go_wp2_with fail
  exact bodyPost_ret (v := .tuple #[zseg, .int .i64 at_, .int .i64 cd]) (by simp [results, Try.results59, go_sem, zseg]) rfl ⟨rfl, HB2.out.2⟩
set_option maxRecDepth 20000 in
set_option maxHeartbeats 8000000 in
theorem sget_4 (k : K8) (A : Option Addr) (l : List UInt8) (c at_ : Nat) (place : Int) (w : World) (hl : l.length ≤ 1000000000) (hB : Bts w A l) (h : at_ < l.length) (y : Nat) (hy : Hid ((l.getD at_ 0).toNat = y)) (hy1 : 1 ≤ y) (hy3 : y ≤ 3) (P t : Nat) (hN : Hid (numL l (at_ + 1) 1048576 = (P, t, 0))) (ht : t ≤ l.length) (n t2 : Nat) (hN2 : Hid (numL l t 12100 = (n, t2, 0))) (ht2 : t2 ≤ l.length) (hcut : l.length - t2 < n + 8) :
    Calls Try.prog 59 #[.agg k.vals.toArray, .slice A l.length c, .int .i64 at_, .int .i64 place] w fun e w' => e = .returned (.tuple #[zseg, .int .i64 at_, .int .i64 5]) ∧ Below w.heap.size w w' := by
  have hb0 : Below w.heap.size w ((w.alloc (.cells k.vals.toArray 28)).alloc (.cells #[.int .i64 0, .int .i64 0, .bool false, .slice none 0 0] 81)) := ((Below.refl _ _).alloc (Nat.le_refl _) _).alloc (by simp) _
  have hb1 := hb0.alloc (by simp; omega) (.cells #[.int .i64 y, .int .i64 0, .bool ((y : Int) == 3), .slice none 0 0] 81)
  have hb2 := hb0.alloc (by simp; omega) (.cells #[.int .i64 y, .int .i64 P, .bool ((y : Int) == 3), .slice none 0 0] 81)
  unfold K8.vals at *
  have hB1 := hB.below hb1
  have hB2 := hB.below hb2
  obtain ⟨b, o, rfl, hbs, hcs⟩ := (hB.below hb0) (by omega)
  have hc := hcs at_ h
  rw [hy.out] at hc
  have HB1 := Lib.hid hB1
  have HB2 := Lib.hid (And.intro hB2 hb2)
  clear hcs hB hB1 hB2 hb2 hb1
  go_enter Try.func59, Try.ntmps59
  go_wp2_with fail
  refine (number_z _ l c (at_ + 1) 1048576 _ _ _ (by omega) (by omega) (by omega) hl HB1.out (by omega) P t 0 hN).mono ?_
  rintro e w1 ⟨z, rfl, hz, rfl⟩
  obtain ⟨rfl, hPm⟩ := hz rfl
  clear hz
  go_wp2_with fail
  refine (number_z _ l c t 12100 _ _ _ rfl rfl ht hl HB2.out.1 (by omega) _ _ _ hN2).mono ?_
  rintro e w1 ⟨z2, rfl, hz2, rfl⟩
  obtain ⟨rfl, hnm⟩ := hz2 rfl
  clear hz2
  go_wp2_with fail
  exact bodyPost_ret (v := .tuple #[zseg, .int .i64 at_, .int .i64 5]) (by simp [results, Try.results59, go_sem, zseg]) rfl ⟨rfl, HB2.out.2⟩
end Go.Proofs.Ytcdklmicbbcknaa
