/-
  steamerlaw15.TagPlaces answers true and leaves old memory as it was: by a walk of its text.
-/
import Derived.Test.YtcdklmicbbcknaaTt
namespace Go.Proofs.Ytcdklmicbbcknaa
open Go.RowKit
theorem ret_bool {b : Bool} (h : b = true) : Ending.returned (.bool b) = .returned (.bool true) := by rw [h]
theorem and_low (p : Int) : BitVec.ofInt 32 (bits .and .i64 p 4294967295) = BitVec.ofInt 32 p := by
  have h : bits .and .i64 p 4294967295 = p % 4294967296 := by
    show IntKind.i64.wrap ((BitVec.ofInt 64 p &&& BitVec.ofInt 64 4294967295).toNat : Int) = _
    rw [BitVec.toNat_and, show (BitVec.ofInt 64 4294967295).toNat = 2 ^ 32 - 1 by decide, Nat.and_two_pow_sub_one_eq_mod, BitVec.toNat_ofInt]
    simp [IntKind.wrap, IntKind.bits, IntKind.signed]
    omega
  rw [h]
  apply BitVec.eq_of_toNat_eq
  rw [BitVec.toNat_ofInt, BitVec.toNat_ofInt]
  simp
theorem tagL_place (k : K8) (p : Int) (l : List UInt8) : tagL k p l = tagL k (bits .and .i64 p 4294967295) l := by
  unfold tagL tagK; rw [and_low]
set_option maxHeartbeats 4000000 in
theorem walk_TagPlaces (k : K8) (p : Int) (A : Option Addr) (l : List UInt8) (c : Nat) (w : World) (hp : -9223372036854775808 ≤ p ∧ p < 9223372036854775808) (hB : Bts w A l) (_hl : l.length ≤ c) (_hc : c ≤ maxLen) :
    Calls Try.prog 7 #[.agg k.vals.toArray, .int .i64 p, .slice A l.length c] w fun e w' => e = .returned (.bool true) ∧ Below w.heap.size w w' := by
  unfold K8.vals
  by_cases h100 : 100 < l.length
  · go_enter Try.func7, Try.ntmps7
    go_wp2_with fail
    refine (told15 _).mono ?_
    rintro e w1 ⟨rfl, hb1⟩
    go_wp2
    go_ret
    exact ⟨rfl, ((Below.refl _ _).alloc (Nat.le_refl _) _).trans (hb1.mono (by simp))⟩
  · have hs := env8_start (Holds.new w 23 k.vals).drew (w0 := w) (A := A) (l := l) ⟨((Below.refl _ _).alloc (Nat.le_refl _) _).drew, by simp, (hB.alloc _).drew⟩
    have HS := Lib.hid hs
    clear hs
    go_enter Try.func7, Try.ntmps7
    go_wp2_with fail
    go_region_held3 (fun w' => w'.cell? ⟨w.heap.size, 0, none⟩ = some (.int .u32 (W k.k0)) ∧ w'.cell? ⟨w.heap.size, 1, none⟩ = some (.int .u32 (W k.k1)) ∧ w'.cell? ⟨w.heap.size, 2, none⟩ = some (.int .u32 (W k.k2)) ∧ w'.cell? ⟨w.heap.size, 3, none⟩ = some (.int .u32 (W k.k3)) ∧ w'.cell? ⟨w.heap.size, 4, none⟩ = some (.int .u32 (W k.k4)) ∧ w'.cell? ⟨w.heap.size, 5, none⟩ = some (.int .u32 (W k.k5)) ∧ w'.cell? ⟨w.heap.size, 6, none⟩ = some (.int .u32 (W k.k6)) ∧ w'.cell? ⟨w.heap.size, 7, none⟩ = some (.int .u32 (W k.k7)) ∧ Kp w A l w') (first | exact HS.out | exact env8_keep (by assumption) hbx)
      (first
        | (go_at_call 24; refine (told15 _).mono ?_; rintro e w' ⟨rfl, hbx⟩)
        | (go_at_call 25; refine (of_any k _ A l c _ (by omega) ?_).mono ?_; (exact (env8_kp (by assumption)).2.2); rintro e w' ⟨rfl, hbx⟩)
        | (go_at_call 29; refine (same_bytes _ _ (tagL_len _ _ _) (tagL_len _ _ _) _).mono ?_; rintro e w' ⟨rfl, hbx⟩))
    go_wp2
    go_ret
    exact ⟨ret_bool (decide_eq_true (tagL_place k p l)), (env8_kp (by assumption)).below⟩
end Go.Proofs.Ytcdklmicbbcknaa
