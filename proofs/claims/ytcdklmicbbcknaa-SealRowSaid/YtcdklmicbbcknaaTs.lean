/-
  tag.Sum and the reference's Sum: what they come to, by walks of their text.
-/
import Derived.Test.YtcdklmicbbcknaaLa
import Derived.Test.YtcdklmicbbcknaaPb
import Derived.Test.YtcdklmicbbcknaaMf
import Derived.Test.YtcdklmicbbcknaaGo
namespace Go.Proofs.Ytcdklmicbbcknaa
open Go.RowKit
def sumFr (r s : BitVec 32) (A : Option Addr) (n c : Nat) (x v k : Nat) : List (Option Value) :=
  some (.int .u32 (W r)) :: some (.int .u32 (W s)) :: some (.slice A n c) :: none :: none :: none :: none :: some (.int .u64 x) :: some (.int .u64 v) :: some (.int .i64 k) :: List.replicate 33 none
set_option maxHeartbeats 1000000 in
theorem sum_any (r s : BitVec 32) (A : Option Addr) (l : List UInt8) (c : Nat) (w : World) (hl : l.length ≤ 4294967296) (hB : Bts w A l) :
    Calls Try.prog 26 #[.int .u32 (W r), .int .u32 (W s), .slice A l.length c] w fun e w' => e = .returned (.int .u32 (W (sumW r s l))) ∧ w = w' := by
  have hr0 := W_lo r
  have hr1 := W_hi r
  have hs0 := W_lo s
  have hs1 := W_hi s
  go_enter Try.func26, Try.ntmps26
  go_wp2
  refine wp_scope_back 0 (fun a' w' => w = w' ∧ ∃ k : Nat, k ≤ l.length ∧ FrameIs (sumFr r s A l.length c (sumX r.toNat) (sFold (sumX r.toNat) (s.toNat % 4294967291) (l.take k)) k) a') (fun a' _ => l.length - (intOf (a'.tmps.getD 9 undef)).toNat) rfl ?_ ?_
  · intro hp
    go_wp2
    go_step3
    rename_i hk
    refine hk _ _ ?_
    exact hp.out _ _ ⟨rfl, 0, by omega, ⟨rfl, rfl, rfl, by unfold W sumX; go_num, by unfold W; rfl, rfl, trivial⟩, rfl⟩
  · rintro a' w' ⟨rfl, k, hk, hf⟩
    have hx0 := sumX_lo r.toNat
    have hx1 := sumX_hi r.toNat
    have hv := sFold_hi (sumX r.toNat) (l.take k) (s.toNat % 4294967291) (Nat.mod_lt _ (by omega))
    have hp := prod_int _ _ hv hx1
    refine pass_frame hf ?_
    clear hf
    generalize hX : sumX r.toNat = x at *
    have HX := Lib.hid hX
    clear hX
    generalize hV : sFold x (s.toNat % 4294967291) (l.take k) = v at *
    have HV := Lib.hid hV
    clear hV
    intro u3 u4 u5 u6 u10 u11 u12 u13 u14 u15 u16 u17 u18 u19 u20 u21 u22 u23 u24 u25 u26 u27 u28 u29 u30 u31 u32 u33 u34 u35 u36 u37 u38 u39 u40 u41 u42
    dsimp only [AllFit, List.replicate_zero]
    by_cases hlt : k < l.length
    · obtain ⟨b, o, rfl, hb, hc⟩ := hB (by omega)
      have hck := hc k hlt
      clear hc hB
      have hbt : (l.getD k 0).toNat < 256 := UInt8.toNat_lt _
      generalize hbe : (l.getD k 0).toNat = bt at *
      obtain ⟨hp0, hp1⟩ := hp
      go_wp2
      go_step3
      have hst := sFold_take x (s.toNat % 4294967291) l k hlt
      rw [HV.out, hbe] at hst
      exact ⟨rfl, ⟨rfl, k + 1, by omega, ⟨rfl, rfl, rfl, rfl, by rw [hst]; rfl, by simp, trivial⟩, rfl⟩, by simp [intOf]; omega⟩
    · obtain rfl : k = l.length := by omega
      clear hB
      obtain ⟨hp0, hp1⟩ := hp
      go_wp2
      simp only [Exit.jump]
      go_ret
      refine ⟨?_, rfl⟩
      have e : v = sFold x (s.toNat % 4294967291) l := by rw [← HV.out, List.take_length]
      rw [sumW_eq, sumN, HX.out, ← e]
      rfl
set_option maxHeartbeats 1000000 in
theorem rsum_any (r s : BitVec 32) (b : ByteArray) (w : World) (hl : b.size ≤ 4294967296) :
    Calls Try.prog 27 #[.int .u32 (W r), .int .u32 (W s), .string b] w fun e w' => e = .returned (.int .u32 (W (sumW r s b.data.toList))) ∧ w = w' := by
  have hr0 := W_lo r
  have hr1 := W_hi r
  have hs0 := W_lo s
  have hs1 := W_hi s
  have hxr : W r % 4294967290 + 1 = ((sumX r.toNat : Nat) : Int) := by unfold W; rfl
  have hsr : W s % 4294967291 = ((s.toNat % 4294967291 : Nat) : Int) := by unfold W; rfl
  have hl2 : b.data.toList.length = b.size := rfl
  have HL := Lib.hid hl2
  clear hl2
  go_enter Try.func27, Try.ntmps27
  go_wp2
  clear hxr hsr
  go_loop [8, 9] (fun v i => ∃ k : Nat, k ≤ b.size ∧ i = .int .i64 k ∧ v = .int .u64 (sFold (sumX r.toNat) (s.toNat % 4294967291) (b.data.toList.take k))) (fun _ i => b.size - (intOf i).toNat)
  case atStart => exact ⟨0, by omega, rfl, rfl⟩
  case round =>
    obtain ⟨k, hk, rfl, rfl⟩ := hrel
    have hx0 := sumX_lo r.toNat
    have hx1 := sumX_hi r.toNat
    have hv := sFold_hi (sumX r.toNat) (b.data.toList.take k) (s.toNat % 4294967291) (Nat.mod_lt _ (by omega))
    obtain ⟨hp0, hp1⟩ := prod_int _ _ hv hx1
    generalize hX : sumX r.toNat = x at *
    have HX := Lib.hid hX
    clear hX
    generalize hV : sFold x (s.toNat % 4294967291) (b.data.toList.take k) = v at *
    have HV := Lib.hid hV
    clear hV
    by_cases hlt : k < b.size
    · have hst := sFold_take x (s.toNat % 4294967291) b.data.toList k (by rw [HL.out]; exact hlt)
      rw [HV.out] at hst
      have HST := Lib.hid hst
      clear hst
      have hbt := UInt8.toNat_lt b[k]
      go_wp2
      go_round
      case rel => exact ⟨k + 1, by omega, by go_num, by rw [HST.out, getD_bytes b k hlt]; rfl⟩
      case measure => simp [intOf]; omega
    · obtain rfl : k = b.size := by omega
      go_wp2
      go_ret
      refine ⟨?_, rfl⟩
      have e : v = sFold x (s.toNat % 4294967291) b.data.toList := by rw [← HV.out, ← HL.out, List.take_length]
      rw [sumW_eq, sumN, HX.out, ← e]
      rfl
end Go.Proofs.Ytcdklmicbbcknaa
