/-
  steamerlaw15.TagLong answers true and leaves old memory as it was: by a walk of its text.
-/
import Derived.Test.YtcdklmicbbcknaaTt
import Derived.Test.YtcdklmicbbcknaaBy
import Derived.Outline
namespace Go.Proofs.Ytcdklmicbbcknaa
open Go.RowKit
theorem wrap_sumX (r : BitVec 32) : IntKind.u64.wrap ((IntKind.u64.wrap (W r)).tmod 4294967290 + 1) = ((sumX r.toNat : Nat) : Int) := by
  have h0 := W_lo r
  have h1 := W_hi r
  have e1 : IntKind.u64.wrap (W r) = W r := by simp [IntKind.wrap, IntKind.bits, IntKind.signed]; omega
  rw [e1, Int.tmod_eq_emod_of_nonneg h0]
  have e2 : W r % 4294967290 + 1 = ((sumX r.toNat : Nat) : Int) := by unfold W; rfl
  rw [e2]
  have := sumX_hi r.toNat
  simp [IntKind.wrap, IntKind.bits, IntKind.signed]; omega
theorem wrap_sumS (s : BitVec 32) : (IntKind.u64.wrap (W s)).tmod 4294967291 = ((s.toNat % 4294967291 : Nat) : Int) := by
  have h0 := W_lo s
  have h1 := W_hi s
  have e1 : IntKind.u64.wrap (W s) = W s := by simp [IntKind.wrap, IntKind.bits, IntKind.signed]; omega
  rw [e1, Int.tmod_eq_emod_of_nonneg h0]
  unfold W; rfl
theorem sumN_snoc (r s : Nat) (l : List UInt8) (c : UInt8) : sumN r s (l ++ [c]) = (sStep (sumX r) (sFold (sumX r) (s % 4294967291) l) c.toNat * sumX r + (l.length + 1)) % 4294967291 := by
  rw [sumN, sFold_append, List.length_append]; rfl
set_option maxRecDepth 20000 in
set_option maxHeartbeats 4000000 in
theorem walk_TagLong (r s : BitVec 32) (A : Option Addr) (l : List UInt8) (c : Nat) (cc : UInt8) (w : World) (hB : Bts w A l) (_hl : l.length ≤ c) (_hc : c ≤ maxLen) :
    Calls Try.prog 6 #[.int .u32 (W r), .int .u32 (W s), .slice A l.length c, .int .u8 (cc.toNat : Int)] w fun e w' => e = .returned (.bool true) ∧ Below w.heap.size w w' := by
  by_cases h100 : 100 < l.length
  · go_enter Try.func6, Try.ntmps6
    go_wp2_with fail
    refine (told15 _).mono ?_
    rintro e w1 ⟨rfl, hb1⟩
    go_wp2
    go_ret
    exact ⟨rfl, hb1⟩
  · have hxr := wrap_sumX r
    have hsr := wrap_sumS s
    go_enter Try.func6, Try.ntmps6
    go_wp2
    clear hxr hsr
    go_loop [10, 11] (fun v i => ∃ k : Nat, k ≤ l.length ∧ i = .int .i64 k ∧ v = .int .u64 (sFold (sumX r.toNat) (s.toNat % 4294967291) (l.take k))) (fun _ i => l.length - (intOf i).toNat)
    case atStart => exact ⟨0, by omega, rfl, rfl⟩
    case round =>
      obtain ⟨k, hk, rfl, rfl⟩ := hrel
      have hx0 := sumX_lo r.toNat
      have hx1 := sumX_hi r.toNat
      have hv := sFold_hi (sumX r.toNat) (l.take k) (s.toNat % 4294967291) (Nat.mod_lt _ (by omega))
      obtain ⟨hp0, hp1⟩ := prod_int _ _ hv hx1
      generalize hX : sumX r.toNat = x at *
      have HX := Lib.hid hX
      clear hX
      by_cases hlt : k < l.length
      · generalize hV : sFold x (s.toNat % 4294967291) (l.take k) = v at *
        have HV := Lib.hid hV
        clear hV
        obtain ⟨b, o, rfl, _, hc⟩ := hB (by omega)
        have hck := hc k hlt
        have hst := sFold_take x (s.toNat % 4294967291) l k hlt
        clear hc hB
        have hbt : (l.getD k 0).toNat < 256 := UInt8.toNat_lt _
        generalize (l.getD k 0).toNat = bt at *
        rw [HV.out] at hst
        have HST := Lib.hid hst
        clear hst
        go_wp2
        go_round
        case rel => exact ⟨k + 1, by omega, by go_num, by rw [HST.out]; rfl⟩
        case measure => simp [intOf]; omega
      · obtain rfl : k = l.length := by omega
        rw [List.take_length] at hv hp0 hp1 ⊢
        generalize hV : sFold x (s.toNat % 4294967291) l = v at *
        have HV := Lib.hid hV
        clear hV
        have hn2 := sStep_hi x v cc.toNat
        have hS := sumW_eq r s l
        have hS2 := sumW_eq r s (l ++ [cc])
        have hcc := UInt8.toNat_lt cc
        rw [sumN] at hS
        rw [sumN_snoc] at hS2
        rw [HX.out, HV.out] at hS hS2
        obtain ⟨hq0, hq1⟩ := prod_int _ _ hn2 hx1
        have h2 : ((v : Int) * (x : Int) + (cc.toNat : Int) + 1) % 4294967291 = ((sStep x v cc.toNat : Nat) : Int) := rfl
        generalize sStep x v cc.toNat = n2 at *
        have h1 : ((v : Int) * (x : Int) + (l.length : Int)) % 4294967291 = W (sumW r s l) := by rw [hS]; rfl
        have h3 : ((n2 : Int) * (x : Int) + ((l.length : Int) + 1)) % 4294967291 = W (sumW r s (l ++ [cc])) := by rw [hS2]; rfl
        clear hS hS2
        go_wp2_with fail
        refine (told15 _).mono ?_
        rintro e w1 ⟨rfl, hb1⟩
        go_wp2_with fail
        refine (sum_any _ _ _ _ _ _ (by omega) (hB.below hb1)).mono ?_
        rintro e w2 ⟨rfl, rfl⟩
        have ho0 := Own.made w1 w1.heap.size (Nat.le_refl _) [] (by simp)
        have hB0 := (hB.below hb1).alloc (.cells (bvals []).toArray 5)
        go_wp2_with (first
          | (at_builtin; refine wpList_appG (by rfl) (.tmp 81) (.tmp 82) rfl (by rfl) ho0 (by rfl) hB0 (by simp; omega) (by simp) ?_; intro A1 c1 r1 w2 hr1 ho1 hg1 ha1; have ho1' := ho1.alloc (.cells (bvals [cc]).toArray 5); have hB2 := Bts.of_holds (Holds.new w2 5 (bvals [cc])); have hr1l : r1.length ≤ 100 := (by rw [hr1.out]; simp; omega); have hsz2 := hg1.size)
          | (at_builtin; refine wpList_appG (by rfl) (.tmp 83) (.tmp 85) rfl (by rfl) ho1' (by rfl) hB2 (by simp; omega) (by simp at hsz2 ⊢; omega) ?_; intro A2 c2 r2 w3 hr2 ho2 hg2 ha2; have hr2l : r2.length ≤ 101 := (by rw [hr2.out]; simp; omega)))
        have hr2' : r2 = l ++ [cc] := by rw [hr2.out, hr1.out]; rfl
        refine (sum_any _ _ _ _ _ _ (by omega) ho2.bts).mono ?_
        rintro e w4 ⟨rfl, rfl⟩
        rw [hr2']
        go_wp2
        go_ret
        have hsz1 := hb1.size
        refine ⟨?_, ?_⟩
        · simp [go_sem]
        · have q1 := (hb1.alloc hsz1 (.cells (bvals []).toArray 5)).grown hg1 (by rw [World.size_alloc]; omega) (by intro k hk; obtain rfl := Option.some.inj hk; exact hsz1)
          have q2 := q1.alloc q1.size (.cells (bvals [cc]).toArray 5)
          exact q2.grown hg2 q2.size (by intro k hk; have := (ho1.lt k hk).1; omega)
end Go.Proofs.Ytcdklmicbbcknaa
