/-
  The reference's Put; the told() of layer 9: it answers true. Walks of their text.
-/
import Derived.Test.YtcdklmicbbcknaaNg
import Derived.Test.YtcdklmicbbcknaaRt
namespace Go.Proofs.Ytcdklmicbbcknaa
open Go Go.RowKit
section
attribute [local go_sem] mkStr_app mkStr_size
set_option maxRecDepth 20000 in
set_option maxHeartbeats 8000000 in
theorem rput_any (n : Nat) (hn : n ≤ 18446744073709551615) (w : World) :
    Calls Try.prog 35 #[.int .u64 n] w fun e w' => e = .returned (.string (mkStr (putL n))) ∧ Below w.heap.size w w' := by
  have hl18 := putL_18 n hn
  go_enter Try.func35, Try.ntmps35
  go_wp2_with fail
  go_loopw [0, 3] (fun v x wr => ∃ (q : Nat) (r : List UInt8), Hid (r ++ putL q = putL n) ∧ q ≤ n ∧ r.length ≤ 18 ∧ v = .int .u64 q ∧ x = .string (mkStr r) ∧ Below w.heap.size w wr)
    (fun v _ _ => (intOf v).toNat)
  case atStart => exact ⟨n, [], rfl, Nat.le_refl _, by simp, rfl, rfl, Below.refl _ _⟩
  case round =>
    obtain ⟨q, r, hr, hq, hr18, rfl, rfl, hb⟩ := hrel
    have hq64 : (q : Int) ≤ 18446744073709551615 := by omega
    have hsz := hb.size
    by_cases hlt : 250 ≤ q
    · obtain ⟨y, hy, hyy⟩ : ∃ y : UInt8, (q : Int) % 250 = (y.toNat : Int) ∧ Hid (y = UInt8.ofNat (q % 250)) := ⟨_, by rw [ofNat_small (by omega)]; omega, rfl⟩
      have hyb := UInt8.toNat_lt y
      have hB2 : Bts (wr.alloc (.cells #[.int .u8 250, .int .u8 (y.toNat : Int)] 5)) (some ⟨wr.heap.size, 0, none⟩) [250, y] := Bts.of_holds (t := 5) (Holds.new wr 5 _)
      have hst : (convert 24 9 (.slice (some ⟨wr.heap.size, 0, none⟩) 2 2)).run Try.prog (wr.alloc (.cells #[.int .u8 250, .int .u8 (y.toNat : Int)] 5)) = .ok (.string (mkStr [250, y])) (wr.alloc (.cells #[.int .u8 250, .int .u8 (y.toNat : Int)] 5)) := run_str hB2 2
      clear hB2
      go_wp2_with fail
      go_round
      case rel =>
        have e : (r ++ [250, y]) ++ putL (q / 250) = putL n := by
          rw [← hr.out, putL_ge hlt, hyy.out]; simp
        have hl := congrArg List.length e
        rw [List.length_append] at hl
        exact ⟨q / 250, r ++ [250, y], e, by omega, by omega, by go_num, rfl, hb.alloc hsz _⟩
      case measure => simp [intOf]; omega
    · obtain ⟨y, hy, hyy⟩ : ∃ y : UInt8, (q : Int) = (y.toNat : Int) ∧ Hid (y = UInt8.ofNat q) := ⟨_, by rw [ofNat_small (by omega)], rfl⟩
      have hyb := UInt8.toNat_lt y
      have hq2 : q < 250 := by omega
      have hB2 : Bts (wr.alloc (.cells #[.int .u8 (y.toNat : Int)] 5)) (some ⟨wr.heap.size, 0, none⟩) [y] := Bts.of_holds (t := 5) (Holds.new wr 5 _)
      have hst : (convert 24 9 (.slice (some ⟨wr.heap.size, 0, none⟩) 1 1)).run Try.prog (wr.alloc (.cells #[.int .u8 (y.toNat : Int)] 5)) = .ok (.string (mkStr [y])) (wr.alloc (.cells #[.int .u8 (y.toNat : Int)] 5)) := run_str hB2 1
      have HR : Hid (r ++ [y] = putL n) := by rw [← hr.out, putL_lt hq2, hyy.out]; exact rfl
      clear hr hyy hq64 hB2
      obtain rfl : q = y.toNat := by omega
      clear hy
      go_wp2_with fail
      go_ret
      exact ⟨by rw [← HR.out]; rfl, hb.alloc hsz _⟩
end
theorem putL_250 : putL 250 = [250, 0, 1] := by rw [putL_ge (by omega), putL_lt (by omega)]; rfl
theorem putL_249 : putL 249 = [249] := by rw [putL_lt (by omega)]; rfl
theorem putL_2 : putL 2 = [2] := by rw [putL_lt (by omega)]; rfl
theorem Bts.three {w : World} {g : Nat} {a b c : UInt8} (h : Bts w (some ⟨g, 0, none⟩) [a, b, c]) : w.cell? ⟨g, 0, none⟩ = some (.int .u8 (a.toNat : Int)) ∧ w.cell? ⟨g, 1, none⟩ = some (.int .u8 (b.toNat : Int)) ∧ w.cell? ⟨g, 2, none⟩ = some (.int .u8 (c.toNat : Int)) := by
  obtain ⟨b', o', e, _, hc⟩ := h (by simp)
  injection e with e
  injection e with e1 e2
  subst e1 e2
  exact ⟨hc 0 (by simp), hc 1 (by simp), hc 2 (by simp)⟩
theorem t9_put (w : World) : Calls Try.prog 31 #[.int .u64 250] w fun e w' => ∃ g c, e = .returned (.slice (some ⟨g, 0, none⟩) 3 c) ∧ Bts w' (some ⟨g, 0, none⟩) [250, 0, 1] ∧ Below w.heap.size w w' := by
  refine (put_any 250 (by omega) w).mono ?_
  rintro e w' ⟨A, c, r, hr, rfl, ho, hb⟩
  obtain rfl : r = [250, 0, 1] := by rw [hr.out, putL_250]
  obtain ⟨g, rfl, _, _⟩ := ho.addr (by simp)
  exact ⟨g, c, rfl, ho.bts, hb⟩
theorem t9_put1 (w : World) : Calls Try.prog 31 #[.int .u64 249] w fun e w' => ∃ A c, e = .returned (.slice A 1 c) ∧ Below w.heap.size w w' := by
  refine (put_any 249 (by omega) w).mono ?_
  rintro e w' ⟨A, c, r, hr, rfl, ho, hb⟩
  obtain rfl : r = [249] := by rw [hr.out, putL_249]
  exact ⟨A, c, rfl, hb⟩
theorem t9_text (w : World) : Calls Try.prog 33 #[.string { data := #[97, 98] }] w fun e w' => ∃ g c, e = .returned (.slice (some ⟨g, 0, none⟩) 3 c) ∧ 3 ≤ c ∧ Bts w' (some ⟨g, 0, none⟩) [2, 97, 98] ∧ Below w.heap.size w w' := by
  refine (text_any [97, 98] (by simp) w).mono ?_
  rintro e w' ⟨A, c, r, hr, rfl, ho, hb⟩
  obtain rfl : r = [2, 97, 98] := by rw [hr.out, show ([97, 98] : List UInt8).length = 2 from rfl, putL_2]; rfl
  obtain ⟨g, rfl, _, _⟩ := ho.addr (by simp)
  exact ⟨g, c, rfl, ho.cap, ho.bts, hb⟩
section
variable (g c : Nat) (w : World)
theorem t9_get1 (hB : Bts w (some ⟨g, 0, none⟩) [250, 0, 1]) : Calls Try.prog 32 #[.slice (some ⟨g, 0, none⟩) 3 c, .int .i64 0] w fun e w' => e = .returned (.tuple #[.int .u64 250, .int .i64 3, .int .i64 0]) ∧ w = w' :=
  get_any _ [250, 0, 1] c 0 w (by simp) (by simp) hB 250 3 0 (Lib.hid (by decide +kernel))
theorem t9_get2 (hB : Bts w (some ⟨g, 0, none⟩) [250, 1, 0]) : Calls Try.prog 32 #[.slice (some ⟨g, 0, none⟩) 3 c, .int .i64 0] w fun e w' => e = .returned (.tuple #[.int .u64 0, .int .i64 0, .int .i64 3]) ∧ w = w' :=
  get_any _ [250, 1, 0] c 0 w (by simp) (by simp) hB 0 0 3 (Lib.hid (by decide +kernel))
theorem t9_get3 (hB : Bts w (some ⟨g, 0, none⟩) [251]) : Calls Try.prog 32 #[.slice (some ⟨g, 0, none⟩) 1 c, .int .i64 0] w fun e w' => e = .returned (.tuple #[.int .u64 0, .int .i64 0, .int .i64 3]) ∧ w = w' :=
  get_any _ [251] c 0 w (by simp) (by simp) hB 0 0 3 (Lib.hid (by decide +kernel))
theorem t9_get4 : Calls Try.prog 32 #[.slice (some ⟨g, 0, none⟩) 3 c, .int .i64 4] w fun e w' => e = .returned (.tuple #[.int .u64 0, .int .i64 4, .int .i64 2]) ∧ w = w' :=
  get_far _ 3 c 4 w (by omega) (by omega)
theorem t9_gt1 (hc : 3 ≤ c) (hB : Bts w (some ⟨g, 0, none⟩) [2, 97, 98]) : Calls Try.prog 34 #[.slice (some ⟨g, 0, none⟩) 3 c, .int .i64 0, .int .i64 2] w fun e w' => e = .returned (.tuple #[.string { data := #[97, 98] }, .int .i64 3, .int .i64 0]) ∧ w = w' :=
  gt_ok g 0 [2, 97, 98] c 0 2 w (by simp) (by simp) (by simp) hc hB 2 1 (Lib.hid (by decide +kernel)) (by simp) (by omega) (by simp)
theorem t9_gt2 (hB : Bts w (some ⟨g, 0, none⟩) [2, 97, 98]) : Calls Try.prog 34 #[.slice (some ⟨g, 0, none⟩) 3 c, .int .i64 0, .int .i64 1] w fun e w' => e = .returned (.tuple #[.string ⟨#[]⟩, .int .i64 0, .int .i64 13]) ∧ w = w' :=
  gt_limit _ [2, 97, 98] c 0 1 w (by simp) (by simp) hB 2 1 (Lib.hid (by decide +kernel)) (by omega) (by omega) (by omega)
theorem t9_gt3 (hB : Bts w (some ⟨g, 0, none⟩) [5, 1]) : Calls Try.prog 34 #[.slice (some ⟨g, 0, none⟩) 2 c, .int .i64 0, .int .i64 9] w fun e w' => e = .returned (.tuple #[.string ⟨#[]⟩, .int .i64 0, .int .i64 3]) ∧ w = w' :=
  gt_bytes _ [5, 1] c 0 9 w (by simp) (by simp) hB 5 1 (Lib.hid (by decide +kernel)) (by omega) (by omega) (by simp) (by simp)
end
set_option maxRecDepth 20000 in
set_option maxHeartbeats 8000000 in
theorem told9 (w : World) : Calls Try.prog 30 #[] w fun e w' => e = .returned (.bool true) ∧ Below w.heap.size w w' := by
  go_enter Try.func30, Try.ntmps30
  go_wp2_with fail
  refine (t9_put _).mono ?_
  rintro e w1 ⟨g, c, rfl, hB1, hb1⟩
  have hs1 := hb1.size
  go_wp2_with fail
  refine (t9_get1 g c _ hB1).mono ?_
  rintro e w2 ⟨rfl, rfl⟩
  have hB2 : Bts (w1.alloc (.cells #[.int .u8 250, .int .u8 1, .int .u8 0] 5)) (some ⟨w1.heap.size, 0, none⟩) [250, 1, 0] := Bts.of_holds (t := 5) (Holds.new w1 5 _)
  go_wp2_with fail
  refine (t9_get2 _ _ _ hB2).mono ?_
  rintro e w2 ⟨rfl, rfl⟩
  have hB3 : Bts ((w1.alloc (.cells #[.int .u8 250, .int .u8 1, .int .u8 0] 5)).alloc (.cells #[.int .u8 251] 5)) (some ⟨w1.heap.size + 1, 0, none⟩) [251] := Bts.of_holds (t := 5) (Holds.newAt _ 5 _ (by simp))
  have hb2 := (hb1.alloc hs1 (.cells #[.int .u8 250, .int .u8 1, .int .u8 0] 5)).alloc (by simp; omega) (.cells #[.int .u8 251] 5)
  have hB1' := (hB1.alloc (.cells #[.int .u8 250, .int .u8 1, .int .u8 0] 5)).alloc (.cells #[.int .u8 251] 5)
  clear hB2 hB1
  go_wp2_with fail
  refine (t9_get3 _ _ _ hB3).mono ?_
  rintro e w2 ⟨rfl, rfl⟩
  clear hB3
  go_wp2_with fail
  refine (t9_get4 _ _ _).mono ?_
  rintro e w2 ⟨rfl, rfl⟩
  go_wp2_with fail
  refine (t9_text _).mono ?_
  rintro e w3 ⟨g3, c3, rfl, hc3, hB3, hb3⟩
  have hb3' := hb2.trans (hb3.mono hb2.size)
  have hB1'' := hB1'.below hb3
  clear hb2 hB1' hb3
  go_wp2_with fail
  refine (t9_gt1 _ _ _ hc3 hB3).mono ?_
  rintro e w4 ⟨rfl, rfl⟩
  clear hB3
  go_wp2_with fail
  refine (t9_text _).mono ?_
  rintro e w4 ⟨g4, c4, rfl, hc4, hB4, hb4⟩
  have hb4' := hb3'.trans (hb4.mono hb3'.size)
  have hB5 := hB1''.below hb4
  clear hb3' hB1'' hb4
  go_wp2_with fail
  refine (t9_gt2 _ _ _ hB4).mono ?_
  rintro e w5 ⟨rfl, rfl⟩
  clear hB4
  have hB6 : Bts (w4.alloc (.cells #[.int .u8 5, .int .u8 1] 5)) (some ⟨w4.heap.size, 0, none⟩) [5, 1] := Bts.of_holds (t := 5) (Holds.new w4 5 _)
  have hb6 := hb4'.alloc hb4'.size (.cells #[.int .u8 5, .int .u8 1] 5)
  have hB7 := hB5.alloc (.cells #[.int .u8 5, .int .u8 1] 5)
  clear hB5 hb4'
  go_wp2_with fail
  refine (t9_gt3 _ _ _ hB6).mono ?_
  rintro e w5 ⟨rfl, rfl⟩
  obtain ⟨f1, f2, f3⟩ := hB7.three
  clear hB6 hB7
  go_wp2_with fail
  refine (t9_put1 _).mono ?_
  rintro e w6 ⟨A6, c6, rfl, hb7⟩
  have hfin := hb6.trans (hb7.mono hb6.size)
  clear hb6 hb7
  go_wp2_with fail
  go_ret
  exact ⟨by simp, hfin⟩
end Go.Proofs.Ytcdklmicbbcknaa
