/-
  lane.Xor: what it comes to, by a walk of its text.
-/
import Derived.Test.YtcdklmicbbcknaaSt
import Derived.Test.YtcdklmicbbcknaaRo
import Derived.Laws.OwnMore
import Derived.Deep.RegionHeld3
namespace Go.Proofs.Ytcdklmicbbcknaa
open Go Go.RowKit
/-! ### plain -/
def xorL (s b : List UInt8) : List UInt8 := List.zipWith (· ^^^ ·) s b
def xorAt (s b : List UInt8) (i : Nat) : List UInt8 := (xorL s b).take i ++ s.drop i
theorem xorL_len (s b : List UInt8) (h : s.length = b.length) : (xorL s b).length = s.length := by simp [xorL, h]
theorem xorAt_len (s b : List UInt8) (h : s.length = b.length) (i : Nat) (hi : i ≤ s.length) : (xorAt s b i).length = s.length := by
  rw [xorAt, List.length_append, List.length_take, List.length_drop, xorL_len s b h]; omega
theorem xorAt_get (s b : List UInt8) (h : s.length = b.length) (i : Nat) (hi : i < s.length) : (xorAt s b i).getD i 0 = s.getD i 0 := by
  have e : ((xorL s b).take i).length = i := by rw [List.length_take, xorL_len s b h]; omega
  rw [xorAt, List.getD_eq_getElem?_getD, List.getElem?_append_right (by omega), e, Nat.sub_self, List.getElem?_drop, Nat.add_zero, List.getD_eq_getElem?_getD]
theorem xorAt_set (s b : List UInt8) (h : s.length = b.length) (i : Nat) (hi : i < s.length) : (xorAt s b i).set i (s.getD i 0 ^^^ b.getD i 0) = xorAt s b (i + 1) := by
  have e : ((xorL s b).take i).length = i := by rw [List.length_take, xorL_len s b h]; omega
  have hl := xorL_len s b h
  rw [xorAt, xorAt, List.set_append_right _ _ (by omega), e, Nat.sub_self, List.drop_eq_getElem_cons hi, List.set_cons_zero, List.take_succ_eq_append_getElem (by omega : i < (xorL s b).length), List.append_assoc]
  congr 2
  simp [xorL, List.getD_eq_getElem?_getD, List.getElem?_eq_getElem hi, List.getElem?_eq_getElem (show i < b.length by omega)]
theorem xorAt_zero (s b : List UInt8) : xorAt s b 0 = s := by simp [xorAt]
theorem xorAt_all (s b : List UInt8) (h : s.length = b.length) : xorAt s b s.length = xorL s b := by
  rw [xorAt, List.drop_length, List.append_nil, List.take_of_length_le (by rw [xorL_len s b h]; omega)]
/-! ### rows -/
section
variable {w : World} {base : Nat} {A : Option Addr} {c g : Nat} {l : List UInt8}
theorem Own.mono (h : Own w base A c l) {b2 : Nat} (hb : b2 ≤ base) : Own w b2 A c l := by
  refine ⟨h.1, h.2.imp id ?_⟩
  rintro ⟨g, cap, cur, hv, hg, r⟩
  exact ⟨g, cap, cur, hv, by omega, r⟩
theorem Own.addr (h : Own w base A c l) (h0 : 0 < l.length) : ∃ g, A = some ⟨g, 0, none⟩ ∧ base ≤ g ∧ g < w.heap.size := by
  rcases h.2 with ⟨_, h1⟩ | ⟨g, cap, cur, hv, hg, hh, _⟩
  · omega
  · injection hv with hA _ _
    subst hA
    exact ⟨g, rfl, h.lt g rfl⟩
theorem Own.free (h : Own w base (some ⟨g, 0, none⟩) c l) (j : Nat) : w.frozen? ⟨g, j, none⟩ = false := World.ownsRow.frozenAt h j
theorem Own.cell (h : Own w base (some ⟨g, 0, none⟩) c l) (j : Nat) (hj : j < l.length) : w.cell? ⟨g, j, none⟩ = some (.int .u8 ((l.getD j 0).toNat : Int)) := by
  obtain ⟨b, o, hA, _, hc⟩ := h.bts (by omega)
  have hA := Option.some.inj hA
  have h1 : g = b := congrArg Addr.block hA
  have h2 : 0 = o := congrArg Addr.off hA
  subst h1 h2
  have := hc j hj
  rwa [Nat.zero_add] at this
theorem Own.set (h : Own w base (some ⟨g, 0, none⟩) c l) (j : Nat) (v : UInt8) : Own (w.setCell ⟨g, j, none⟩ (.int .u8 (v.toNat : Int))) base (some ⟨g, 0, none⟩) c (l.set j v) := by
  have := (World.ownsRow.stored h j (.int .u8 (v.toNat : Int))).1
  unfold Own
  rw [List.length_set, show bvals (l.set j v) = (bvals l).set j (.int .u8 (v.toNat : Int)) from List.map_set]
  exact this
end
attribute [local go_sem] W_add W_sub bits_xor_W bits_or_W bits_xor_B
set_option maxRecDepth 20000 in
set_option maxHeartbeats 8000000 in
theorem xor_any (k : K8) (p : Int) (A : Option Addr) (b : List UInt8) (cb : Nat) (w : World) (hl : b.length ≤ 100000) (hB : Bts w A b) :
    Calls Try.prog 48 #[.agg k.vals.toArray, .int .i64 p, .slice A b.length cb] w fun e w' => ∃ A' c r, Hid (r = xorL (streamL k p b.length) b) ∧ e = .returned (.slice A' r.length c) ∧ Own w' (w.heap.size + 1) A' c r ∧ Below w.heap.size w w' := by
  have hb0 : Below w.heap.size w (w.alloc (.cells k.vals.toArray 28)) := (Below.refl _ _).alloc (Nat.le_refl _) _
  unfold K8.vals at *
  go_enter Try.func48, Try.ntmps48
  go_wp2_with fail
  refine (stream_any k p b.length _ hl).mono ?_
  rintro e w1 ⟨A1, c1, r, hr, rfl, ho, hb1⟩
  have hb2 := hb0.trans (hb1.mono (by simp))
  have ho1 : Own w1 (w.heap.size + 1) A1 c1 r := ho.mono (by simp)
  have hrl : r.length = b.length := by rw [hr.out, streamL_len]
  have HL := Lib.hid hrl
  clear hrl hb0 ho hb1
  go_wp2_with fail
  go_loopw [16] (fun v wr => ∃ i : Nat, i ≤ r.length ∧ v = .int .i64 i ∧ Own wr (w.heap.size + 1) A1 c1 (xorAt r b i) ∧ Below w.heap.size w wr) (fun v _ => r.length - (intOf v).toNat)
  case atStart => exact ⟨0, by omega, rfl, by rw [xorAt_zero]; exact ho1, hb2⟩
  case round =>
    clear ho1 hb2
    obtain ⟨i, hi, rfl, ho, hb⟩ := hrel
    have hlen := xorAt_len r b HL.out i hi
    by_cases hlt : i < r.length
    · obtain ⟨g, rfl, hg1, hg2⟩ := ho.addr (by omega)
      obtain ⟨b0, o, rfl, hb0w, hc⟩ := (hB.below hb) (by have := HL.out; omega)
      have hc2 := hc i (by have := HL.out; omega)
      have hc1 := ho.cell i (by omega)
      rw [xorAt_get r b HL.out i hlt] at hc1
      have hf1 := ho.free i
      have hset := ho.set i (r.getD i 0 ^^^ b.getD i 0)
      rw [xorAt_set r b HL.out i hlt] at hset
      clear hc
      have HO := Lib.hid hlen
      clear hlen
      have hib : i < b.length := by have := HL.out; omega
      generalize r.getD i 0 = x at *
      generalize b.getD i 0 = y at *
      go_wp2_with fail
      go_region
      go_wp2
      go_round
      case rel =>
        refine ⟨i + 1, by omega, by go_num, hset.drew, ?_⟩
        exact (hb.setCell (by show w.heap.size ≤ g; omega) _).drew
      case measure => simp [intOf]; omega
    · obtain rfl : i = r.length := by omega
      rw [xorAt_all r b HL.out] at ho
      have hx : (xorL r b).length = r.length := xorL_len r b HL.out
      go_wp2_with fail
      go_ret
      refine ⟨A1, c1, xorL r b, by rw [hr.out]; rfl, ?_, ho, hb⟩
      rw [hx]
      simp [go_sem]
end Go.Proofs.Ytcdklmicbbcknaa
