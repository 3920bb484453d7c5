/-
  steamerlaw15.TagSames answers true and leaves old memory as it was: by a walk of its text.
-/
import Derived.Test.YtcdklmicbbcknaaTt
namespace Go.Proofs.Ytcdklmicbbcknaa
open Go.RowKit
attribute [local go_sem] bits_xor_B
theorem utmod8 (a : Int) : (IntKind.u64.wrap a).tmod 8 = 0 ∨ (IntKind.u64.wrap a).tmod 8 = 1 ∨ (IntKind.u64.wrap a).tmod 8 = 2 ∨ (IntKind.u64.wrap a).tmod 8 = 3 ∨ (IntKind.u64.wrap a).tmod 8 = 4 ∨ (IntKind.u64.wrap a).tmod 8 = 5 ∨ (IntKind.u64.wrap a).tmod 8 = 6 ∨ (IntKind.u64.wrap a).tmod 8 = 7 := by
  obtain ⟨c, hc, hk⟩ := utmod a 8 (by omega)
  have h : (IntKind.u64.wrap a).tmod 8 = (c : Int) := hk
  omega
theorem bxor_iff (t x : UInt8) : ((x.toNat : Int) = ((x.toNat ^^^ t.toNat : Nat) : Int)) = (t = 0) := by
  rw [← UInt8.toNat_xor, toInt_inj, xor_self_iff]
theorem bxor_iff' (t x : UInt8) : (((x.toNat ^^^ t.toNat : Nat) : Int) = (x.toNat : Int)) = (t = 0) := by
  rw [← UInt8.toNat_xor, toInt_inj, xor_self_iff']
set_option maxHeartbeats 4000000 in
theorem walk_TagSames (t : List UInt8) (a : Int) (turn : UInt8) (w : World) (ht : t.length = 8) (_ha : -9223372036854775808 ≤ a ∧ a < 9223372036854775808) :
    Calls Try.prog 5 #[.agg (bvals t).toArray, .int .i64 a, .int .u8 (turn.toNat : Int)] w fun e w' => e = .returned (.bool true) ∧ Below w.heap.size w w' := by
  match t, ht with
  | [t0, t1, t2, t3, t4, t5, t6, t7], _ =>
    simp only [bvals, List.map_cons, List.map_nil]
    have hsw := B_zero turn
    have HA := Lib.hid (bxor_iff turn)
    have HB := Lib.hid (bxor_iff' turn)
    obtain hk | hk | hk | hk | hk | hk | hk | hk := utmod8 a
    all_goals
      go_enter Try.func5, Try.ntmps5
      go_wp2_with fail
      refine (told15 _).mono ?_
      rintro e w1 ⟨rfl, hb1⟩
      obtain ⟨hc1, hf1⟩ := bcell hb1
      have hs1 := hb1.size
      simp only [World.size_alloc] at hs1
      go_wp2_with fail
      refine (same_any _ _ _ _ _ _ _ _ _ _ _ _ _ _ _ _ _).mono ?_
      rintro e w2 ⟨he, hb2⟩
      simp only [List.cons.injEq, HA.out, true_and, and_true] at he
      subst he
      obtain ⟨hc2, hf2⟩ := bcell hb2
      have hs2 := hb2.size
      have hl1 : w.heap.size < w1.heap.size := by omega
      have hl2 : w.heap.size + 1 < w1.heap.size := by omega
      go_wp2_with fail
      refine (same_any _ _ _ _ _ _ _ _ _ _ _ _ _ _ _ _ _).mono ?_
      rintro e w3 ⟨he, hb3⟩
      simp only [List.cons.injEq, HB.out, true_and, and_true] at he
      subst he
      go_wp2
      go_ret
      refine ⟨by simp, ?_⟩
      exact (((Below.refl _ _).alloc (Nat.le_refl _) _).alloc (by simp) _).trans ((hb1.mono (by simp; omega)).trans ((hb2.mono (by omega)).trans (hb3.mono (by omega))))
end Go.Proofs.Ytcdklmicbbcknaa
