/-
  tag.Of: what it comes to, by a walk of its text.
-/
import Derived.Test.YtcdklmicbbcknaaLm
import Derived.Test.YtcdklmicbbcknaaTs
import Derived.Deep.RegionHeld3
namespace Go.Proofs.Ytcdklmicbbcknaa
open Go.RowKit
attribute [local go_sem] W_add W_sub bits_xor_W bits_or_W
set_option maxHeartbeats 4000000 in
theorem of_any (k : K8) (p : Int) (A : Option Addr) (l : List UInt8) (c : Nat) (w : World) (hl : l.length ≤ 4294967296) (hB : Bts w A l) :
    Calls Try.prog 25 #[.agg k.vals.toArray, .int .i64 p, .slice A l.length c] w fun e w' => e = .returned (.agg (bvals (tagL k p l)).toArray) ∧ Below w.heap.size w w' := by
  have hpw : (p % 4294967296) = W (BitVec.ofInt 32 p) := (W_ofInt p).symm
  unfold K8.vals
  go_enter Try.func25, Try.ntmps25
  go_wp2_with fail
  refine (mix_any (tagK k p) _).mono ?_
  rintro e w1 ⟨rfl, hb1⟩
  have hB1 : Bts w1 A l := ((hB.alloc _).alloc _).below hb1
  have hz : Holds w1 (w.heap.size + 1) 26 [.int .u8 0, .int .u8 0, .int .u8 0, .int .u8 0, .int .u8 0, .int .u8 0, .int .u8 0, .int .u8 0] := (Holds.newAt _ 26 _ (by simp)).below hb1 (by simp)
  have hbw : Below w.heap.size w w1 := (((Below.refl _ _).alloc (Nat.le_refl _) _).alloc (by simp) _).trans (hb1.mono (by simp; omega))
  have hsz := hz.lt
  have hz8 := fun o1 o2 o3 => (((hz.alloc o1).alloc o2).alloc o3).eight
  have hzf := fun o1 o2 o3 => (((hz.alloc o1).alloc o2).alloc o3).eightFree
  clear hb1
  generalize hm : mix (tagK k p) = m at *
  have HM := Lib.hid hm
  clear hm
  unfold K8.vals
  go_wp2_with fail
  go_region_held3 (fun w' => w'.cell? ⟨w1.heap.size, 0, none⟩ = some (.int .u32 (W m.k0)) ∧ w'.cell? ⟨w1.heap.size, 1, none⟩ = some (.int .u32 (W m.k1)) ∧ w'.cell? ⟨w1.heap.size, 2, none⟩ = some (.int .u32 (W m.k2)) ∧ w'.cell? ⟨w1.heap.size, 3, none⟩ = some (.int .u32 (W m.k3))) (go_keep)
    ((go_at_call 26; refine (sum_any _ _ _ _ _ _ hl ?_).mono ?_; (exact ((hB1.alloc _).alloc _).drew); rintro e w' ⟨rfl, rfl⟩))
  go_wp2_with fail
  refine wp_loop_rounds 3 ?_
  rw [rounds_succ]
  go_wp2
  refine wp_loop_rounds 5 ?_
  iterate 5 (rw [rounds_succ]; go_wp2)
  rw [rounds_succ]
  go_wp2
  refine wp_loop_rounds 5 ?_
  iterate 5 (rw [rounds_succ]; go_wp2)
  rw [rounds_succ]
  go_wp2
  refine bodyPost_ret (v := .agg (bvals (tagM m l)).toArray) (by simp [results, Try.results25, go_sem, hz8]; exact (tagM_vals m l).symm) rfl ⟨by rw [tagL, HM.out], ?_⟩
  refine Below.drew ?_
  repeat (refine Below.setCell ?_ (by simp) _)
  exact ((hbw.alloc (by omega) _).alloc (by simp; omega) _).alloc (by simp; omega) _
end Go.Proofs.Ytcdklmicbbcknaa
