/-
  key.Of where it refuses, key.Check, the reference's KeyOf where it refuses and its Check: walks of their text.
-/
import Derived.Test.YtcdklmicbbcknaaKo
namespace Go.Proofs.Ytcdklmicbbcknaa
open Go Go.RowKit
set_option maxRecDepth 20000 in
set_option maxHeartbeats 4000000 in
theorem key_bad (l : List UInt8) (s : S8) (n : Int) (w : World) (h : 100 < l.length ∨ n < 1 ∨ 1000 < n) :
    Calls Try.prog 37 #[.string (mkStr l), .agg s.vals.toArray, .int .i64 n] w fun e w' => e = .returned (.tuple #[.agg K0.vals.toArray, .int .i64 1]) ∧ Below w.heap.size w w' := by
  have hsz : (mkStr l).size = l.length := mkStr_size l
  have hb0 : Below w.heap.size w (((w.alloc (.cells s.vals.toArray 26)).alloc (.cells #[.int .u32 0, .int .u32 0, .int .u32 0, .int .u32 0, .int .u32 0, .int .u32 0, .int .u32 0, .int .u32 0] 28)).alloc (.cells #[.int .u32 0, .int .u32 0, .int .u32 0, .int .u32 0, .int .u32 0, .int .u32 0, .int .u32 0, .int .u32 0] 28)) := (((Below.refl _ _).alloc (Nat.le_refl _) _).alloc (by simp) _).alloc (by simp; omega) _
  unfold S8.vals at *
  have hcase : 100 < l.length ∨ (l.length ≤ 100 ∧ n < 1) ∨ (l.length ≤ 100 ∧ 1 ≤ n ∧ 1000 < n) := by omega
  rcases hcase with h | ⟨h, h2⟩ | ⟨h, h2, h3⟩
  all_goals (
    go_enter Try.func37, Try.ntmps37
    go_wp2_with fail
    refine wp_scope_back 0 (fun _ _ => False) (fun _ _ => 0) rfl ?_ (fun _ _ hF => hF.elim)
    intro hp
    clear hp
    go_wp2_with fail
    simp only [Exit.jump]
    refine bodyPost_ret (v := .tuple #[.agg #[.int .u32 0, .int .u32 0, .int .u32 0, .int .u32 0, .int .u32 0, .int .u32 0, .int .u32 0, .int .u32 0], .int .i64 1]) (by simp [results, Try.results37, go_sem]) rfl ⟨rfl, hb0⟩)
set_option maxHeartbeats 4000000 in
theorem check_any (k : K8) (w : World) : Calls Try.prog 39 #[.agg k.vals.toArray] w fun e w' => e = .returned (.agg (bvals (tagL k (-1) [])).toArray) ∧ Below w.heap.size w w' := by
  obtain ⟨t0, t1, t2, t3, t4, t5, t6, t7, hT⟩ : ∃ t0 t1 t2 t3 t4 t5 t6 t7, Hid (tagL k (-1) [] = [t0, t1, t2, t3, t4, t5, t6, t7]) := ⟨_, _, _, _, _, _, _, _, rfl⟩
  unfold K8.vals
  go_enter Try.func39, Try.ntmps39
  go_wp2_with fail
  refine (of_any k (-1) none [] 0 _ (by simp) (Bts.nil _ _)).mono ?_
  rintro e w1 ⟨rfl, hb1⟩
  rw [hT.out]
  have hz1 : Holds w1 (w.heap.size + 1) 26 [.int .u8 0, .int .u8 0, .int .u8 0, .int .u8 0, .int .u8 0, .int .u8 0, .int .u8 0, .int .u8 0] := (Holds.newAt _ 26 _ (by simp)).below hb1 (by simp)
  have hbw : Below w.heap.size w w1 := (((Below.refl _ _).alloc (Nat.le_refl _) _).alloc (by simp) _).trans (hb1.mono (by simp; omega))
  have z8 := hz1.eight
  have zf := hz1.eightFree
  clear hb1
  simp only [bvals, List.map_cons, List.map_nil]
  go_wp2_with fail
  refine bodyPost_ret (v := .agg #[.int .u8 (t0.toNat : Int), .int .u8 (t1.toNat : Int), .int .u8 (t2.toNat : Int), .int .u8 (t3.toNat : Int), .int .u8 (t4.toNat : Int), .int .u8 (t5.toNat : Int), .int .u8 (t6.toNat : Int), .int .u8 (t7.toNat : Int)]) (by simp [results, Try.results39, go_sem, z8]) rfl ⟨by rw [hT.out]; rfl, ?_⟩
  repeat (refine Below.setCell ?_ (by simp) _)
  exact hbw
set_option maxHeartbeats 4000000 in
theorem rcheck_any (k : K8) (w : World) : Calls Try.prog 40 #[.agg k.vals.toArray] w fun e w' => e = .returned (.string (mkStr (tagL k (-1) []))) ∧ Below w.heap.size w w' := by
  have hb0 : Below w.heap.size w (w.alloc (.cells k.vals.toArray 32)) := (Below.refl _ _).alloc (Nat.le_refl _) _
  unfold K8.vals at *
  go_enter Try.func40, Try.ntmps40
  go_wp2_with fail
  refine (rtag_any k (-1) [] _ (by simp)).mono ?_
  rintro e w1 ⟨rfl, hb1⟩
  go_wp2
  go_ret
  exact ⟨rfl, hb0.trans (hb1.mono (by simp))⟩
end Go.Proofs.Ytcdklmicbbcknaa
