/-
  The told() of layer 15: it answers true, by a walk of its text.
-/
import Derived.Test.YtcdklmicbbcknaaTo
import Derived.Test.YtcdklmicbbcknaaTe
import Derived.Deep.RegionHeld3
namespace Go.Proofs.Ytcdklmicbbcknaa
open Go.RowKit
theorem sum_00 (w : World) : Calls Try.prog 26 #[.int .u32 0, .int .u32 0, .slice none 0 0] w fun e w' => e = .returned (.int .u32 0) ∧ w = w' := by
  have h := sum_any 0 0 none [] 0 w (by simp) (Bts.nil _ _)
  have e : W (sumW 0 0 []) = 0 := by decide +kernel
  rw [e] at h; exact h
theorem sum_05 (w : World) : Calls Try.prog 26 #[.int .u32 0, .int .u32 5, .slice none 0 0] w fun e w' => e = .returned (.int .u32 5) ∧ w = w' := by
  have h := sum_any 0 5 none [] 0 w (by simp) (Bts.nil _ _)
  have e : W (sumW 0 5 []) = 5 := by decide +kernel
  rw [e] at h; exact h
theorem sum_109 (b : Nat) (w : World) (hb : Holds w b 5 [.int .u8 9]) : Calls Try.prog 26 #[.int .u32 1, .int .u32 0, .slice (some ⟨b, 0, none⟩) 1 1] w fun e w' => e = .returned (.int .u32 21) ∧ w = w' := by
  have h := sum_any 1 0 (some ⟨b, 0, none⟩) [9] 1 w (by simp) (Bts.of_holds hb)
  have e : W (sumW 1 0 [9]) = 21 := by decide +kernel
  rw [e] at h; exact h
def K5 : K8 := ⟨5, 0, 0, 0, 0, 0, 0, 0⟩
set_option maxHeartbeats 4000000 in
theorem told15 (w : World) : Calls Try.prog 24 #[] w fun e w' => e = .returned (.bool true) ∧ Below w.heap.size w w' := by
  go_enter Try.func24, Try.ntmps24
  go_wp2_with fail
  go_region_held3 (fun w' => w'.cell? ⟨w.heap.size, 0, none⟩ = some (.int .u32 5) ∧ w'.cell? ⟨w.heap.size, 1, none⟩ = some (.int .u32 0) ∧ w'.cell? ⟨w.heap.size, 2, none⟩ = some (.int .u32 0) ∧ w'.cell? ⟨w.heap.size, 3, none⟩ = some (.int .u32 0) ∧ w'.cell? ⟨w.heap.size, 4, none⟩ = some (.int .u32 0) ∧ w'.cell? ⟨w.heap.size, 5, none⟩ = some (.int .u32 0) ∧ w'.cell? ⟨w.heap.size, 6, none⟩ = some (.int .u32 0) ∧ w'.cell? ⟨w.heap.size, 7, none⟩ = some (.int .u32 0)) (first | go_keep | ((try dsimp only); refine ⟨?_, ?_, ?_, ?_, ?_, ?_, ?_, ?_⟩ <;> (rw [hcx _ _ (by first | omega | (simp; done) | (simp; omega))]; go_keep)))
    (first
      | (go_at_call 26; first | ((with_reducible refine (sum_00 _).mono ?_); rintro e w' ⟨rfl, rfl⟩) | ((with_reducible refine (sum_05 _).mono ?_); rintro e w' ⟨rfl, rfl⟩) | ((with_reducible refine (sum_109 _ _ ?_).mono ?_); (exact Holds.newAt _ 5 _ (by simp)); rintro e w' ⟨rfl, rfl⟩))
      | (go_at_call 25; refine (of_any K5 1 none [] 0 _ (by simp) (Bts.nil _ _)).mono ?_; rintro e w' ⟨rfl, hbx⟩; obtain ⟨hcx, hfx⟩ := bcell hbx; have hsx := hbx.size; (try simp at hsx))
      | (go_at_call 29; refine (same_bytes _ _ (tagL_len _ _ _) (tagL_len _ _ _) _).mono ?_; rintro e w' ⟨rfl, hbx⟩; obtain ⟨hcx, hfx⟩ := bcell hbx; have hsy := hbx.size; (try simp at hsy)))
  go_wp2
  go_ret
  refine ⟨by simp, ?_⟩
  refine Below.trans ?_ (hbx.mono (by omega))
  refine Below.trans ?_ (Below.mono (by assumption) (by omega))
  refine Below.trans ?_ (Below.mono (by assumption) (by simp; omega))
  exact (((Below.refl _ _).alloc (Nat.le_refl _) _).alloc (by simp) _).drew
end Go.Proofs.Ytcdklmicbbcknaa
