/-
  slices.Grow and slices.Concat on bytes: what they come to, by walks of their text (printed by sg.py).
-/
import Derived.Test.YtcdklmicbbcknaaNg
import Derived.Lib.AppendZeros
namespace Go.Proofs.Ytcdklmicbbcknaa
open Go Go.RowKit
theorem own_room {w : World} {n : Nat} (hn : n ≤ 1000000) (zs : Array Value) (hz : zs.size = grownCap w n 0 5) : Own (w.drew.alloc (.cells zs 5)) w.heap.size (some ⟨w.heap.size, 0, none⟩) (grownCap w n 0 5) [] := by
  have hcm : grownCap w n 0 5 ≤ maxLen := grownCap_le_maxLen w n 0 5 (by simp only [maxLen]; omega)
  unfold Own
  exact ⟨rfl, .inr ⟨w.heap.size, _, _, rfl, Nat.le_refl _, heap_alloc_new w.drew _, Nat.zero_le _, hcm, by rw [hz, Nat.mul_one], by simp [bvals]⟩⟩
set_option maxRecDepth 20000 in
set_option maxHeartbeats 4000000 in
theorem grow_any (n : Nat) (hn : n ≤ 1000000) (w : World) : Calls Try.prog 72 #[.slice none 0 0, .int .i64 n] w fun e w' => ∃ A c, e = .returned (.slice A 0 c) ∧ Own w' w.heap.size A c [] ∧ Below w.heap.size w w' := by
  by_cases h0 : n = 0
  · subst h0
    go_enter Try.func72, Try.ntmps72
    go_wp2_with fail
    go_ret
    exact ⟨none, 0, rfl, Own.nil _ _, Below.refl _ _⟩
  · obtain ⟨i, hi, hz, hs, hby⟩ := info_parts info5b
    have hr := Lib.run_append_nil_zeros (P := Try.prog) w 24 3 24 5 i (.int .u8 0) .i64 .i64 Try.underlying24 Try.underlying3 hi hz n (by omega) (by omega) (by omega) (by rw [hby]; omega)
    have hge := grownCap_ge w n 0 5
    have hsize : (Builtin.zeroCells (Value.cells (.int .u8 0)) n ++ Builtin.zeroCells (Value.cells (.int .u8 0)) (grownCap w n 0 5 - n)).size = grownCap w n 0 5 := by
      rw [Array.size_append, size_zeroCells, size_zeroCells, show (Value.cells (.int .u8 0)).size = 1 from rfl]; omega
    have ho := own_room (w := w) hn _ hsize
    have hb : Below w.heap.size w (w.drew.alloc (.cells (Builtin.zeroCells (Value.cells (.int .u8 0)) n ++ Builtin.zeroCells (Value.cells (.int .u8 0)) (grownCap w n 0 5 - n)) 5)) := ((Below.refl _ _).drew).alloc (Nat.le_refl _) _
    have HO := Lib.hid (And.intro ho hb)
    have HR := Lib.hid hr
    generalize hG : grownCap w n 0 5 = G at *
    generalize w.drew.alloc (.cells (Builtin.zeroCells (Value.cells (.int .u8 0)) n ++ Builtin.zeroCells (Value.cells (.int .u8 0)) (G - n)) 5) = wx at *
    clear hr ho hb hsize hG
    go_enter Try.func72, Try.ntmps72
    go_wp2_with (at_builtin; refine Lib.wpList_append_run _ rfl (.tmp 20) (.tmp 21) 24 3 rfl _ _ (by rfl) (by rfl) _ _ HR.out ?_)
    go_ret
    exact ⟨_, _, rfl, HO.out.1, HO.out.2⟩
theorem grow_z (z : Int) (n : Nat) (hz : z = n) (hn : n ≤ 1000000) (w : World) : Calls Try.prog 72 #[.slice none 0 0, .int .i64 z] w fun e w' => ∃ A c, e = .returned (.slice A 0 c) ∧ Own w' w.heap.size A c [] ∧ Below w.heap.size w w' := by
  subst hz
  exact grow_any n hn w
set_option maxRecDepth 20000 in
set_option maxHeartbeats 8000000 in
theorem concat4 (g : Nat) (A1 A2 A3 A4 : Option Addr) (l1 l2 l3 l4 : List UInt8) (c1 c2 c3 c4 : Nat) (w : World) (hg : Holds w g 24 [.slice A1 l1.length c1, .slice A2 l2.length c2, .slice A3 l3.length c3, .slice A4 l4.length c4])
    (hB1 : Bts w A1 l1) (hB2 : Bts w A2 l2) (hB3 : Bts w A3 l3) (hB4 : Bts w A4 l4) (h1 : l1.length ≤ 20000) (h2 : l2.length ≤ 20000) (h3 : l3.length ≤ 20000) (h4 : l4.length ≤ 20000) :
    Calls Try.prog 69 #[.slice (some ⟨g, 0, none⟩) 4 4] w fun e w' => ∃ A c r, Hid (r = l1 ++ l2 ++ l3 ++ l4) ∧ e = .returned (.slice A r.length c) ∧ Own w' w.heap.size A c r ∧ Below w.heap.size w w' := by
  have hc := hg.four
  go_enter Try.func69, Try.ntmps69
  go_wp2_with fail
  refine wp_loop_rounds 5 ?_
  iterate 4 (
    rw [rounds_succ]
    go_wp2_with fail)
  rw [rounds_succ]
  go_wp2_with fail
  refine (grow_z _ (l1.length + l2.length + l3.length + l4.length) (by omega) (by omega) _).mono ?_
  rintro e w0 ⟨B0, d0, rfl, ho0, hb0⟩
  have HB := Lib.hid (And.intro hg (And.intro hB1 (And.intro hB2 (And.intro hB3 hB4))))
  clear hc hg hB1 hB2 hB3 hB4
  have hc := (HB.out.1.below hb0 HB.out.1.lt).four
  go_wp2_with fail
  refine wp_loop_rounds 5 ?_
  rw [rounds_succ]
  have hBx := (HB.out.2.1).below hb0
  have hlen : ([] : List UInt8).length + l1.length ≤ 140737488355328 := by simp; omega
  have hsz := hb0.size
  go_wp2_with (at_builtin; refine wpList_app rfl (.tmp 31) (.tmp 32) rfl (by rfl) ho0 (by rfl) hBx hlen hsz ?_; intro B1 d1 r1 w1 hr1 ho1 hg1 ha1)
  have hrl1 : r1.length ≤ 20000 := by rw [hr1.out, List.length_append]; simp; omega
  have hb1 := hb0.grown hg1 hsz (fun k hk => (ho0.lt k hk).1)
  clear hc hBx hlen hsz hg1 ha1 ho0
  have hc := (HB.out.1.below hb1 HB.out.1.lt).four
  rw [rounds_succ]
  have hBx := (HB.out.2.2.1).below hb1
  have hlen : r1.length + l2.length ≤ 140737488355328 := by omega
  have hsz := hb1.size
  go_wp2_with (at_builtin; refine wpList_app rfl (.tmp 31) (.tmp 32) rfl (by rfl) ho1 (by rfl) hBx hlen hsz ?_; intro B2 d2 r2 w2 hr2 ho2 hg2 ha2)
  have hrl2 : r2.length ≤ 40000 := by rw [hr2.out, List.length_append]; omega
  have hb2 := hb1.grown hg2 hsz (fun k hk => (ho1.lt k hk).1)
  clear hc hBx hlen hsz hg2 ha2 ho1
  have hc := (HB.out.1.below hb2 HB.out.1.lt).four
  rw [rounds_succ]
  have hBx := (HB.out.2.2.2.1).below hb2
  have hlen : r2.length + l3.length ≤ 140737488355328 := by omega
  have hsz := hb2.size
  go_wp2_with (at_builtin; refine wpList_app rfl (.tmp 31) (.tmp 32) rfl (by rfl) ho2 (by rfl) hBx hlen hsz ?_; intro B3 d3 r3 w3 hr3 ho3 hg3 ha3)
  have hrl3 : r3.length ≤ 60000 := by rw [hr3.out, List.length_append]; omega
  have hb3 := hb2.grown hg3 hsz (fun k hk => (ho2.lt k hk).1)
  clear hc hBx hlen hsz hg3 ha3 ho2
  have hc := (HB.out.1.below hb3 HB.out.1.lt).four
  rw [rounds_succ]
  have hBx := (HB.out.2.2.2.2).below hb3
  have hlen : r3.length + l4.length ≤ 140737488355328 := by omega
  have hsz := hb3.size
  go_wp2_with (at_builtin; refine wpList_app rfl (.tmp 31) (.tmp 32) rfl (by rfl) ho3 (by rfl) hBx hlen hsz ?_; intro B4 d4 r4 w4 hr4 ho4 hg4 ha4)
  have hrl4 : r4.length ≤ 80000 := by rw [hr4.out, List.length_append]; omega
  have hb4 := hb3.grown hg4 hsz (fun k hk => (ho3.lt k hk).1)
  clear hc hBx hlen hsz hg4 ha4 ho3
  rw [rounds_succ]
  go_wp2_with fail
  go_ret
  refine ⟨B4, d4, r4, ?_, rfl, ho4, hb4⟩
  rw [hr4.out, hr3.out, hr2.out, hr1.out]; exact rfl
end Go.Proofs.Ytcdklmicbbcknaa
