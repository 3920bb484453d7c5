/-
  steamerlaw17.SealBounds answers true and leaves old memory as it was: by a walk of its text (printed by sealbounds.py).
-/
import Derived.Test.YtcdklmicbbcknaaSu
import Derived.Test.YtcdklmicbbcknaaKb
namespace Go.Proofs.Ytcdklmicbbcknaa
open Go Go.RowKit
def K1s : K8 := ⟨1, 0, 0, 0, 0, 0, 0, 0⟩
theorem sb_bad (kd p : Int) (last : Bool) (A : Option Addr) (n c : Nat) (w : World) (h : Hid (mayB kd p last n = false)) :
    Calls Try.prog 54 #[.agg #[.int .u32 1, .int .u32 0, .int .u32 0, .int .u32 0, .int .u32 0, .int .u32 0, .int .u32 0, .int .u32 0], .agg #[.int .i64 kd, .int .i64 p, .bool last, .slice A n c]] w fun e w' => e = .returned (.tuple #[.slice none 0 0, .int .i64 1]) ∧ Below w.heap.size w w' := sput_bad K1s kd p last A n c w h.out
theorem sb_good (kd p : Int) (last : Bool) (A : Option Addr) (l : List UInt8) (n c : Nat) (hn : l.length = n) (w : World) (hB : Bts w A l) (h : Hid (mayB kd p last n = true)) :
    Calls Try.prog 54 #[.agg #[.int .u32 1, .int .u32 0, .int .u32 0, .int .u32 0, .int .u32 0, .int .u32 0, .int .u32 0, .int .u32 0], .agg #[.int .i64 kd, .int .i64 p, .bool last, .slice A n c]] w fun e w' => ∃ A' c' N, e = .returned (.tuple #[.slice A' (N + 1) c', .int .i64 0]) ∧ Below w.heap.size w w' := by
  subst hn
  have hm := of_decide_eq_true h.out
  obtain ⟨y, rfl⟩ : ∃ y : UInt8, kd = (y.toNat : Int) := ⟨.ofNat kd.toNat, by rw [ofNat_small (by omega)]; omega⟩
  obtain ⟨q, rfl⟩ : ∃ q : Nat, p = (q : Int) := ⟨p.toNat, by omega⟩
  refine (sput_good K1s y q last A l c w hB h.out).mono ?_
  rintro e w' ⟨A', c', r, hr, rfl, _, hb⟩
  have hl : r.length = (r.length - 1) + 1 := by
    have : 0 < r.length := by rw [hr.out, sealL, List.length_append, sealB_len, tagL_len]; omega
    omega
  exact ⟨A', c', r.length - 1, by rw [← hl], hb⟩
theorem may_ok (k p : Int) (n : Nat) (h1 : 1 ≤ k) (h2 : k ≤ 3) (h3 : 0 ≤ p) (h4 : p ≤ 1048576) (h5 : n ≤ 12100) : mayB k p (k == 3) n = true := by
  refine decide_eq_true ⟨h1, h2, h3, h4, h5, ?_⟩
  by_cases hk : k = 3
  · subst hk; rfl
  · rw [decide_eq_false hk]; exact beq_eq_false_iff_ne.2 hk
theorem may_no (k p : Int) (last : Bool) (n : Nat) (h : k < 1 ∨ 3 < k ∨ p < 0 ∨ 1048576 < p ∨ 12100 < n) : mayB k p last n = false := decide_eq_false fun hh => by omega
theorem sb_flip (kd p : Int) (n : Nat) : mayB kd p (!(kd == 3)) n = false := by
  refine decide_eq_false fun h => ?_
  have := h.2.2.2.2.2
  by_cases h3 : kd = 3
  · subst h3; simp at this
  · have : (kd == 3) = false := beq_eq_false_iff_ne.2 h3
    simp_all
set_option maxRecDepth 20000 in
set_option maxHeartbeats 8000000 in
theorem sbd_0L (n m p : Int) (c i : Nat) (w : World) (hn : (IntKind.u64.wrap n).tmod 5 = (c : Int)) (hm : (IntKind.u64.wrap m).tmod 6 = (i : Int)) (hi : i < 6) (hp : (IntKind.u64.wrap p).tmod 4 = 0) (hc : 3 ≤ c ∧ c < 5) :
    Calls Try.prog 23 #[.int .i64 n, .int .i64 m, .int .i64 p] w fun e w' => e = .returned (.bool true) ∧ Below w.heap.size w w' := by
  have hc3 := wrap64_small c (by omega)
  have hi3 := wrap64_small i (by omega)
  obtain ⟨l, hl⟩ : ∃ l : List UInt8, Hid (l = List.replicate (12098 + c) 0) := ⟨_, rfl⟩
  have hln : l.length = 12098 + c := by rw [hl.out, List.length_replicate]
  have hmay : Hid (mayB ((i : Int) - 1) (-1) ((i : Int) - 1 == 3) (12098 + c) = false) := Lib.hid (may_no _ _ _ _ (by omega))
  have hflip := Lib.hid (sb_flip ((i : Int) - 1) (-1) (12098 + c))
  go_enter Try.func23, Try.ntmps23
  have hb0 : Below w.heap.size w (w.alloc (.cells #[.int .i64 (-1), .int .i64 0, .int .i64 1048576, .int .i64 1048577] 3)) := (Below.refl _ _).alloc (Nat.le_refl _) _
  go_wp2_with (at_make; refine wpList_mk (base := 0) (n := 12098 + c) rfl (.tmp 34) (.tmp 34) rfl (by rfl) (by rfl) (by omega) (Nat.zero_le _) ?_; intro g w5 ho5 hg5 hgr5; have hB5 := ho5.bts; rw [← hl.out] at hB5; have hB5 := Lib.hid hB5; have hb5 := Lib.hid (hb0.grown hgr5 (by simp) (by simp)); clear ho5 hgr5 hg5)
  refine (sb_bad _ _ _ _ _ _ _ hmay).mono ?_
  rintro e w6 ⟨rfl, hb6⟩
  have hs5 := Holds.newAt w5 81 [.int .i64 ((i : Int) - 1), .int .i64 (-1), .bool ((i : Int) - 1 == 3), .slice (some ⟨g, 0, none⟩) (12098 + c) (12098 + c)] (n := w5.heap.size) rfl
  have hs6 := hs5.below hb6 hs5.lt
  have hs4 := hs6.four
  have hf4 := hs6.fourFree
  have hs7 : Holds (w6.setCell ⟨w5.heap.size, 2, none⟩ (.bool (!((i : Int) - 1 == 3)))) w5.heap.size 81 [.int .i64 ((i : Int) - 1), .int .i64 (-1), .bool (!((i : Int) - 1 == 3)), .slice (some ⟨g, 0, none⟩) (12098 + c) (12098 + c)] := hs6.set 2 (.bool (!((i : Int) - 1 == 3)))
  have hz5 := hb5.out.size
  have hb7 := ((hb5.out.alloc hb5.out.size (.cells #[.int .i64 ((i : Int) - 1), .int .i64 (-1), .bool ((i : Int) - 1 == 3), .slice (some ⟨g, 0, none⟩) (12098 + c) (12098 + c)] 81)).trans (hb6.mono (by simp; omega))).setCell (p := ⟨w5.heap.size, 2, none⟩) (show w.heap.size ≤ w5.heap.size by omega) (.bool (!((i : Int) - 1 == 3)))
  have HX := Lib.hid (And.intro hs7 hb7)
  clear hs5 hs6 hb6 hs7 hb7 hb5 hb0
  go_wp2_with fail
  refine (told17 _).mono ?_
  rintro e w9 ⟨rfl, hb9⟩
  have HY := Lib.hid (And.intro (HX.out.1.below hb9 HX.out.1.lt) (HX.out.2.trans (hb9.mono HX.out.2.size)))
  clear hs4 hf4 hb9 HX
  have hs4 := HY.out.1.four
  have hN : (0 : Int) < 1 := by decide
  go_wp2_with fail
  refine (may_any _ _ _ _ _ _ _).mono ?_
  rintro e wb ⟨rfl, hbb⟩
  rw [hflip.out]
  have hfin := HY.out.2.trans (hbb.mono HY.out.2.size)
  clear hs4 HY hbb
  go_wp2_with fail
  go_ret
  exact ⟨ret_boolB (by simp), hfin⟩
set_option maxRecDepth 20000 in
set_option maxHeartbeats 8000000 in
theorem sbd_0A (n m p : Int) (c i : Nat) (w : World) (hn : (IntKind.u64.wrap n).tmod 5 = (c : Int)) (hm : (IntKind.u64.wrap m).tmod 6 = (i : Int)) (hi : i < 6) (hp : (IntKind.u64.wrap p).tmod 4 = 0) (hc : c < 3 ∧ (i : Int) - 1 < 1) :
    Calls Try.prog 23 #[.int .i64 n, .int .i64 m, .int .i64 p] w fun e w' => e = .returned (.bool true) ∧ Below w.heap.size w w' := by
  have hc3 := wrap64_small c (by omega)
  have hi3 := wrap64_small i (by omega)
  obtain ⟨l, hl⟩ : ∃ l : List UInt8, Hid (l = List.replicate (12098 + c) 0) := ⟨_, rfl⟩
  have hln : l.length = 12098 + c := by rw [hl.out, List.length_replicate]
  obtain ⟨hc, hh⟩ := hc
  have hmay : Hid (mayB ((i : Int) - 1) (-1) ((i : Int) - 1 == 3) (12098 + c) = false) := Lib.hid (may_no _ _ _ _ (by omega))
  have hflip := Lib.hid (sb_flip ((i : Int) - 1) (-1) (12098 + c))
  go_enter Try.func23, Try.ntmps23
  have hb0 : Below w.heap.size w (w.alloc (.cells #[.int .i64 (-1), .int .i64 0, .int .i64 1048576, .int .i64 1048577] 3)) := (Below.refl _ _).alloc (Nat.le_refl _) _
  go_wp2_with (at_make; refine wpList_mk (base := 0) (n := 12098 + c) rfl (.tmp 34) (.tmp 34) rfl (by rfl) (by rfl) (by omega) (Nat.zero_le _) ?_; intro g w5 ho5 hg5 hgr5; have hB5 := ho5.bts; rw [← hl.out] at hB5; have hB5 := Lib.hid hB5; have hb5 := Lib.hid (hb0.grown hgr5 (by simp) (by simp)); clear ho5 hgr5 hg5)
  refine (sb_bad _ _ _ _ _ _ _ hmay).mono ?_
  rintro e w6 ⟨rfl, hb6⟩
  have hs5 := Holds.newAt w5 81 [.int .i64 ((i : Int) - 1), .int .i64 (-1), .bool ((i : Int) - 1 == 3), .slice (some ⟨g, 0, none⟩) (12098 + c) (12098 + c)] (n := w5.heap.size) rfl
  have hs6 := hs5.below hb6 hs5.lt
  have hs4 := hs6.four
  have hf4 := hs6.fourFree
  have hs7 : Holds (w6.setCell ⟨w5.heap.size, 2, none⟩ (.bool (!((i : Int) - 1 == 3)))) w5.heap.size 81 [.int .i64 ((i : Int) - 1), .int .i64 (-1), .bool (!((i : Int) - 1 == 3)), .slice (some ⟨g, 0, none⟩) (12098 + c) (12098 + c)] := hs6.set 2 (.bool (!((i : Int) - 1 == 3)))
  have hz5 := hb5.out.size
  have hb7 := ((hb5.out.alloc hb5.out.size (.cells #[.int .i64 ((i : Int) - 1), .int .i64 (-1), .bool ((i : Int) - 1 == 3), .slice (some ⟨g, 0, none⟩) (12098 + c) (12098 + c)] 81)).trans (hb6.mono (by simp; omega))).setCell (p := ⟨w5.heap.size, 2, none⟩) (show w.heap.size ≤ w5.heap.size by omega) (.bool (!((i : Int) - 1 == 3)))
  have HX := Lib.hid (And.intro hs7 hb7)
  clear hs5 hs6 hb6 hs7 hb7 hb5 hb0
  go_wp2_with fail
  refine (told17 _).mono ?_
  rintro e w9 ⟨rfl, hb9⟩
  have HY := Lib.hid (And.intro (HX.out.1.below hb9 HX.out.1.lt) (HX.out.2.trans (hb9.mono HX.out.2.size)))
  clear hs4 hf4 hb9 HX
  have hs4 := HY.out.1.four
  have hN : (0 : Int) < 1 := by decide
  go_wp2_with fail
  refine (may_any _ _ _ _ _ _ _).mono ?_
  rintro e wb ⟨rfl, hbb⟩
  rw [hflip.out]
  have hfin := HY.out.2.trans (hbb.mono HY.out.2.size)
  clear hs4 HY hbb
  go_wp2_with fail
  go_ret
  exact ⟨ret_boolB (by simp), hfin⟩
set_option maxRecDepth 20000 in
set_option maxHeartbeats 8000000 in
theorem sbd_0B (n m p : Int) (c i : Nat) (w : World) (hn : (IntKind.u64.wrap n).tmod 5 = (c : Int)) (hm : (IntKind.u64.wrap m).tmod 6 = (i : Int)) (hi : i < 6) (hp : (IntKind.u64.wrap p).tmod 4 = 0) (hc : c < 3 ∧ 1 ≤ (i : Int) - 1 ∧ 3 < (i : Int) - 1) :
    Calls Try.prog 23 #[.int .i64 n, .int .i64 m, .int .i64 p] w fun e w' => e = .returned (.bool true) ∧ Below w.heap.size w w' := by
  have hc3 := wrap64_small c (by omega)
  have hi3 := wrap64_small i (by omega)
  obtain ⟨l, hl⟩ : ∃ l : List UInt8, Hid (l = List.replicate (12098 + c) 0) := ⟨_, rfl⟩
  have hln : l.length = 12098 + c := by rw [hl.out, List.length_replicate]
  obtain ⟨hc, hh⟩ := hc
  obtain ⟨hh1, hh2⟩ := hh
  have hmay : Hid (mayB ((i : Int) - 1) (-1) ((i : Int) - 1 == 3) (12098 + c) = false) := Lib.hid (may_no _ _ _ _ (by omega))
  have hflip := Lib.hid (sb_flip ((i : Int) - 1) (-1) (12098 + c))
  go_enter Try.func23, Try.ntmps23
  have hb0 : Below w.heap.size w (w.alloc (.cells #[.int .i64 (-1), .int .i64 0, .int .i64 1048576, .int .i64 1048577] 3)) := (Below.refl _ _).alloc (Nat.le_refl _) _
  go_wp2_with (at_make; refine wpList_mk (base := 0) (n := 12098 + c) rfl (.tmp 34) (.tmp 34) rfl (by rfl) (by rfl) (by omega) (Nat.zero_le _) ?_; intro g w5 ho5 hg5 hgr5; have hB5 := ho5.bts; rw [← hl.out] at hB5; have hB5 := Lib.hid hB5; have hb5 := Lib.hid (hb0.grown hgr5 (by simp) (by simp)); clear ho5 hgr5 hg5)
  refine (sb_bad _ _ _ _ _ _ _ hmay).mono ?_
  rintro e w6 ⟨rfl, hb6⟩
  have hs5 := Holds.newAt w5 81 [.int .i64 ((i : Int) - 1), .int .i64 (-1), .bool ((i : Int) - 1 == 3), .slice (some ⟨g, 0, none⟩) (12098 + c) (12098 + c)] (n := w5.heap.size) rfl
  have hs6 := hs5.below hb6 hs5.lt
  have hs4 := hs6.four
  have hf4 := hs6.fourFree
  have hs7 : Holds (w6.setCell ⟨w5.heap.size, 2, none⟩ (.bool (!((i : Int) - 1 == 3)))) w5.heap.size 81 [.int .i64 ((i : Int) - 1), .int .i64 (-1), .bool (!((i : Int) - 1 == 3)), .slice (some ⟨g, 0, none⟩) (12098 + c) (12098 + c)] := hs6.set 2 (.bool (!((i : Int) - 1 == 3)))
  have hz5 := hb5.out.size
  have hb7 := ((hb5.out.alloc hb5.out.size (.cells #[.int .i64 ((i : Int) - 1), .int .i64 (-1), .bool ((i : Int) - 1 == 3), .slice (some ⟨g, 0, none⟩) (12098 + c) (12098 + c)] 81)).trans (hb6.mono (by simp; omega))).setCell (p := ⟨w5.heap.size, 2, none⟩) (show w.heap.size ≤ w5.heap.size by omega) (.bool (!((i : Int) - 1 == 3)))
  have HX := Lib.hid (And.intro hs7 hb7)
  clear hs5 hs6 hb6 hs7 hb7 hb5 hb0
  go_wp2_with fail
  refine (told17 _).mono ?_
  rintro e w9 ⟨rfl, hb9⟩
  have HY := Lib.hid (And.intro (HX.out.1.below hb9 HX.out.1.lt) (HX.out.2.trans (hb9.mono HX.out.2.size)))
  clear hs4 hf4 hb9 HX
  have hs4 := HY.out.1.four
  have hN : (0 : Int) < 1 := by decide
  go_wp2_with fail
  refine (may_any _ _ _ _ _ _ _).mono ?_
  rintro e wb ⟨rfl, hbb⟩
  rw [hflip.out]
  have hfin := HY.out.2.trans (hbb.mono HY.out.2.size)
  clear hs4 HY hbb
  go_wp2_with fail
  go_ret
  exact ⟨ret_boolB (by simp), hfin⟩
set_option maxRecDepth 20000 in
set_option maxHeartbeats 8000000 in
theorem sbd_0D (n m p : Int) (c i : Nat) (w : World) (hn : (IntKind.u64.wrap n).tmod 5 = (c : Int)) (hm : (IntKind.u64.wrap m).tmod 6 = (i : Int)) (hi : i < 6) (hp : (IntKind.u64.wrap p).tmod 4 = 0) (hc : c < 3 ∧ 1 ≤ (i : Int) - 1 ∧ (i : Int) - 1 ≤ 3) :
    Calls Try.prog 23 #[.int .i64 n, .int .i64 m, .int .i64 p] w fun e w' => e = .returned (.bool true) ∧ Below w.heap.size w w' := by
  have hc3 := wrap64_small c (by omega)
  have hi3 := wrap64_small i (by omega)
  obtain ⟨l, hl⟩ : ∃ l : List UInt8, Hid (l = List.replicate (12098 + c) 0) := ⟨_, rfl⟩
  have hln : l.length = 12098 + c := by rw [hl.out, List.length_replicate]
  obtain ⟨hc, hh⟩ := hc
  obtain ⟨hh1, hh2⟩ := hh
  have hmay : Hid (mayB ((i : Int) - 1) (-1) ((i : Int) - 1 == 3) (12098 + c) = false) := Lib.hid (may_no _ _ _ _ (by omega))
  have hflip := Lib.hid (sb_flip ((i : Int) - 1) (-1) (12098 + c))
  go_enter Try.func23, Try.ntmps23
  have hb0 : Below w.heap.size w (w.alloc (.cells #[.int .i64 (-1), .int .i64 0, .int .i64 1048576, .int .i64 1048577] 3)) := (Below.refl _ _).alloc (Nat.le_refl _) _
  go_wp2_with (at_make; refine wpList_mk (base := 0) (n := 12098 + c) rfl (.tmp 34) (.tmp 34) rfl (by rfl) (by rfl) (by omega) (Nat.zero_le _) ?_; intro g w5 ho5 hg5 hgr5; have hB5 := ho5.bts; rw [← hl.out] at hB5; have hB5 := Lib.hid hB5; have hb5 := Lib.hid (hb0.grown hgr5 (by simp) (by simp)); clear ho5 hgr5 hg5)
  refine (sb_bad _ _ _ _ _ _ _ hmay).mono ?_
  rintro e w6 ⟨rfl, hb6⟩
  have hs5 := Holds.newAt w5 81 [.int .i64 ((i : Int) - 1), .int .i64 (-1), .bool ((i : Int) - 1 == 3), .slice (some ⟨g, 0, none⟩) (12098 + c) (12098 + c)] (n := w5.heap.size) rfl
  have hs6 := hs5.below hb6 hs5.lt
  have hs4 := hs6.four
  have hf4 := hs6.fourFree
  have hs7 : Holds (w6.setCell ⟨w5.heap.size, 2, none⟩ (.bool (!((i : Int) - 1 == 3)))) w5.heap.size 81 [.int .i64 ((i : Int) - 1), .int .i64 (-1), .bool (!((i : Int) - 1 == 3)), .slice (some ⟨g, 0, none⟩) (12098 + c) (12098 + c)] := hs6.set 2 (.bool (!((i : Int) - 1 == 3)))
  have hz5 := hb5.out.size
  have hb7 := ((hb5.out.alloc hb5.out.size (.cells #[.int .i64 ((i : Int) - 1), .int .i64 (-1), .bool ((i : Int) - 1 == 3), .slice (some ⟨g, 0, none⟩) (12098 + c) (12098 + c)] 81)).trans (hb6.mono (by simp; omega))).setCell (p := ⟨w5.heap.size, 2, none⟩) (show w.heap.size ≤ w5.heap.size by omega) (.bool (!((i : Int) - 1 == 3)))
  have HX := Lib.hid (And.intro hs7 hb7)
  clear hs5 hs6 hb6 hs7 hb7 hb5 hb0
  go_wp2_with fail
  refine (told17 _).mono ?_
  rintro e w9 ⟨rfl, hb9⟩
  have HY := Lib.hid (And.intro (HX.out.1.below hb9 HX.out.1.lt) (HX.out.2.trans (hb9.mono HX.out.2.size)))
  clear hs4 hf4 hb9 HX
  have hs4 := HY.out.1.four
  have hN : (0 : Int) < 1 := by decide
  go_wp2_with fail
  refine (may_any _ _ _ _ _ _ _).mono ?_
  rintro e wb ⟨rfl, hbb⟩
  rw [hflip.out]
  have hfin := HY.out.2.trans (hbb.mono HY.out.2.size)
  clear hs4 HY hbb
  go_wp2_with fail
  go_ret
  exact ⟨ret_boolB (by simp), hfin⟩
set_option maxRecDepth 20000 in
set_option maxHeartbeats 8000000 in
theorem sbd_1L (n m p : Int) (c i : Nat) (w : World) (hn : (IntKind.u64.wrap n).tmod 5 = (c : Int)) (hm : (IntKind.u64.wrap m).tmod 6 = (i : Int)) (hi : i < 6) (hp : (IntKind.u64.wrap p).tmod 4 = 1) (hc : 3 ≤ c ∧ c < 5) :
    Calls Try.prog 23 #[.int .i64 n, .int .i64 m, .int .i64 p] w fun e w' => e = .returned (.bool true) ∧ Below w.heap.size w w' := by
  have hc3 := wrap64_small c (by omega)
  have hi3 := wrap64_small i (by omega)
  obtain ⟨l, hl⟩ : ∃ l : List UInt8, Hid (l = List.replicate (12098 + c) 0) := ⟨_, rfl⟩
  have hln : l.length = 12098 + c := by rw [hl.out, List.length_replicate]
  have hmay : Hid (mayB ((i : Int) - 1) 0 ((i : Int) - 1 == 3) (12098 + c) = false) := Lib.hid (may_no _ _ _ _ (by omega))
  have hflip := Lib.hid (sb_flip ((i : Int) - 1) 0 (12098 + c))
  go_enter Try.func23, Try.ntmps23
  have hb0 : Below w.heap.size w (w.alloc (.cells #[.int .i64 (-1), .int .i64 0, .int .i64 1048576, .int .i64 1048577] 3)) := (Below.refl _ _).alloc (Nat.le_refl _) _
  go_wp2_with (at_make; refine wpList_mk (base := 0) (n := 12098 + c) rfl (.tmp 34) (.tmp 34) rfl (by rfl) (by rfl) (by omega) (Nat.zero_le _) ?_; intro g w5 ho5 hg5 hgr5; have hB5 := ho5.bts; rw [← hl.out] at hB5; have hB5 := Lib.hid hB5; have hb5 := Lib.hid (hb0.grown hgr5 (by simp) (by simp)); clear ho5 hgr5 hg5)
  refine (sb_bad _ _ _ _ _ _ _ hmay).mono ?_
  rintro e w6 ⟨rfl, hb6⟩
  have hs5 := Holds.newAt w5 81 [.int .i64 ((i : Int) - 1), .int .i64 0, .bool ((i : Int) - 1 == 3), .slice (some ⟨g, 0, none⟩) (12098 + c) (12098 + c)] (n := w5.heap.size) rfl
  have hs6 := hs5.below hb6 hs5.lt
  have hs4 := hs6.four
  have hf4 := hs6.fourFree
  have hs7 : Holds (w6.setCell ⟨w5.heap.size, 2, none⟩ (.bool (!((i : Int) - 1 == 3)))) w5.heap.size 81 [.int .i64 ((i : Int) - 1), .int .i64 0, .bool (!((i : Int) - 1 == 3)), .slice (some ⟨g, 0, none⟩) (12098 + c) (12098 + c)] := hs6.set 2 (.bool (!((i : Int) - 1 == 3)))
  have hz5 := hb5.out.size
  have hb7 := ((hb5.out.alloc hb5.out.size (.cells #[.int .i64 ((i : Int) - 1), .int .i64 0, .bool ((i : Int) - 1 == 3), .slice (some ⟨g, 0, none⟩) (12098 + c) (12098 + c)] 81)).trans (hb6.mono (by simp; omega))).setCell (p := ⟨w5.heap.size, 2, none⟩) (show w.heap.size ≤ w5.heap.size by omega) (.bool (!((i : Int) - 1 == 3)))
  have HX := Lib.hid (And.intro hs7 hb7)
  clear hs5 hs6 hb6 hs7 hb7 hb5 hb0
  go_wp2_with fail
  refine (told17 _).mono ?_
  rintro e w9 ⟨rfl, hb9⟩
  have HY := Lib.hid (And.intro (HX.out.1.below hb9 HX.out.1.lt) (HX.out.2.trans (hb9.mono HX.out.2.size)))
  clear hs4 hf4 hb9 HX
  have hs4 := HY.out.1.four
  have hN : (0 : Int) < 1 := by decide
  go_wp2_with fail
  refine (may_any _ _ _ _ _ _ _).mono ?_
  rintro e wb ⟨rfl, hbb⟩
  rw [hflip.out]
  have hfin := HY.out.2.trans (hbb.mono HY.out.2.size)
  clear hs4 HY hbb
  go_wp2_with fail
  go_ret
  exact ⟨ret_boolB (by simp), hfin⟩
set_option maxRecDepth 20000 in
set_option maxHeartbeats 8000000 in
theorem sbd_1A (n m p : Int) (c i : Nat) (w : World) (hn : (IntKind.u64.wrap n).tmod 5 = (c : Int)) (hm : (IntKind.u64.wrap m).tmod 6 = (i : Int)) (hi : i < 6) (hp : (IntKind.u64.wrap p).tmod 4 = 1) (hc : c < 3 ∧ (i : Int) - 1 < 1) :
    Calls Try.prog 23 #[.int .i64 n, .int .i64 m, .int .i64 p] w fun e w' => e = .returned (.bool true) ∧ Below w.heap.size w w' := by
  have hc3 := wrap64_small c (by omega)
  have hi3 := wrap64_small i (by omega)
  obtain ⟨l, hl⟩ : ∃ l : List UInt8, Hid (l = List.replicate (12098 + c) 0) := ⟨_, rfl⟩
  have hln : l.length = 12098 + c := by rw [hl.out, List.length_replicate]
  obtain ⟨hc, hh⟩ := hc
  have hmay : Hid (mayB ((i : Int) - 1) 0 ((i : Int) - 1 == 3) (12098 + c) = false) := Lib.hid (may_no _ _ _ _ (by omega))
  have hflip := Lib.hid (sb_flip ((i : Int) - 1) 0 (12098 + c))
  go_enter Try.func23, Try.ntmps23
  have hb0 : Below w.heap.size w (w.alloc (.cells #[.int .i64 (-1), .int .i64 0, .int .i64 1048576, .int .i64 1048577] 3)) := (Below.refl _ _).alloc (Nat.le_refl _) _
  go_wp2_with (at_make; refine wpList_mk (base := 0) (n := 12098 + c) rfl (.tmp 34) (.tmp 34) rfl (by rfl) (by rfl) (by omega) (Nat.zero_le _) ?_; intro g w5 ho5 hg5 hgr5; have hB5 := ho5.bts; rw [← hl.out] at hB5; have hB5 := Lib.hid hB5; have hb5 := Lib.hid (hb0.grown hgr5 (by simp) (by simp)); clear ho5 hgr5 hg5)
  refine (sb_bad _ _ _ _ _ _ _ hmay).mono ?_
  rintro e w6 ⟨rfl, hb6⟩
  have hs5 := Holds.newAt w5 81 [.int .i64 ((i : Int) - 1), .int .i64 0, .bool ((i : Int) - 1 == 3), .slice (some ⟨g, 0, none⟩) (12098 + c) (12098 + c)] (n := w5.heap.size) rfl
  have hs6 := hs5.below hb6 hs5.lt
  have hs4 := hs6.four
  have hf4 := hs6.fourFree
  have hs7 : Holds (w6.setCell ⟨w5.heap.size, 2, none⟩ (.bool (!((i : Int) - 1 == 3)))) w5.heap.size 81 [.int .i64 ((i : Int) - 1), .int .i64 0, .bool (!((i : Int) - 1 == 3)), .slice (some ⟨g, 0, none⟩) (12098 + c) (12098 + c)] := hs6.set 2 (.bool (!((i : Int) - 1 == 3)))
  have hz5 := hb5.out.size
  have hb7 := ((hb5.out.alloc hb5.out.size (.cells #[.int .i64 ((i : Int) - 1), .int .i64 0, .bool ((i : Int) - 1 == 3), .slice (some ⟨g, 0, none⟩) (12098 + c) (12098 + c)] 81)).trans (hb6.mono (by simp; omega))).setCell (p := ⟨w5.heap.size, 2, none⟩) (show w.heap.size ≤ w5.heap.size by omega) (.bool (!((i : Int) - 1 == 3)))
  have HX := Lib.hid (And.intro hs7 hb7)
  clear hs5 hs6 hb6 hs7 hb7 hb5 hb0
  go_wp2_with fail
  refine (told17 _).mono ?_
  rintro e w9 ⟨rfl, hb9⟩
  have HY := Lib.hid (And.intro (HX.out.1.below hb9 HX.out.1.lt) (HX.out.2.trans (hb9.mono HX.out.2.size)))
  clear hs4 hf4 hb9 HX
  have hs4 := HY.out.1.four
  have hN : (0 : Int) < 1 := by decide
  go_wp2_with fail
  refine (may_any _ _ _ _ _ _ _).mono ?_
  rintro e wb ⟨rfl, hbb⟩
  rw [hflip.out]
  have hfin := HY.out.2.trans (hbb.mono HY.out.2.size)
  clear hs4 HY hbb
  go_wp2_with fail
  go_ret
  exact ⟨ret_boolB (by simp), hfin⟩
set_option maxRecDepth 20000 in
set_option maxHeartbeats 8000000 in
theorem sbd_1B (n m p : Int) (c i : Nat) (w : World) (hn : (IntKind.u64.wrap n).tmod 5 = (c : Int)) (hm : (IntKind.u64.wrap m).tmod 6 = (i : Int)) (hi : i < 6) (hp : (IntKind.u64.wrap p).tmod 4 = 1) (hc : c < 3 ∧ 1 ≤ (i : Int) - 1 ∧ 3 < (i : Int) - 1) :
    Calls Try.prog 23 #[.int .i64 n, .int .i64 m, .int .i64 p] w fun e w' => e = .returned (.bool true) ∧ Below w.heap.size w w' := by
  have hc3 := wrap64_small c (by omega)
  have hi3 := wrap64_small i (by omega)
  obtain ⟨l, hl⟩ : ∃ l : List UInt8, Hid (l = List.replicate (12098 + c) 0) := ⟨_, rfl⟩
  have hln : l.length = 12098 + c := by rw [hl.out, List.length_replicate]
  obtain ⟨hc, hh⟩ := hc
  obtain ⟨hh1, hh2⟩ := hh
  have hmay : Hid (mayB ((i : Int) - 1) 0 ((i : Int) - 1 == 3) (12098 + c) = false) := Lib.hid (may_no _ _ _ _ (by omega))
  have hflip := Lib.hid (sb_flip ((i : Int) - 1) 0 (12098 + c))
  go_enter Try.func23, Try.ntmps23
  have hb0 : Below w.heap.size w (w.alloc (.cells #[.int .i64 (-1), .int .i64 0, .int .i64 1048576, .int .i64 1048577] 3)) := (Below.refl _ _).alloc (Nat.le_refl _) _
  go_wp2_with (at_make; refine wpList_mk (base := 0) (n := 12098 + c) rfl (.tmp 34) (.tmp 34) rfl (by rfl) (by rfl) (by omega) (Nat.zero_le _) ?_; intro g w5 ho5 hg5 hgr5; have hB5 := ho5.bts; rw [← hl.out] at hB5; have hB5 := Lib.hid hB5; have hb5 := Lib.hid (hb0.grown hgr5 (by simp) (by simp)); clear ho5 hgr5 hg5)
  refine (sb_bad _ _ _ _ _ _ _ hmay).mono ?_
  rintro e w6 ⟨rfl, hb6⟩
  have hs5 := Holds.newAt w5 81 [.int .i64 ((i : Int) - 1), .int .i64 0, .bool ((i : Int) - 1 == 3), .slice (some ⟨g, 0, none⟩) (12098 + c) (12098 + c)] (n := w5.heap.size) rfl
  have hs6 := hs5.below hb6 hs5.lt
  have hs4 := hs6.four
  have hf4 := hs6.fourFree
  have hs7 : Holds (w6.setCell ⟨w5.heap.size, 2, none⟩ (.bool (!((i : Int) - 1 == 3)))) w5.heap.size 81 [.int .i64 ((i : Int) - 1), .int .i64 0, .bool (!((i : Int) - 1 == 3)), .slice (some ⟨g, 0, none⟩) (12098 + c) (12098 + c)] := hs6.set 2 (.bool (!((i : Int) - 1 == 3)))
  have hz5 := hb5.out.size
  have hb7 := ((hb5.out.alloc hb5.out.size (.cells #[.int .i64 ((i : Int) - 1), .int .i64 0, .bool ((i : Int) - 1 == 3), .slice (some ⟨g, 0, none⟩) (12098 + c) (12098 + c)] 81)).trans (hb6.mono (by simp; omega))).setCell (p := ⟨w5.heap.size, 2, none⟩) (show w.heap.size ≤ w5.heap.size by omega) (.bool (!((i : Int) - 1 == 3)))
  have HX := Lib.hid (And.intro hs7 hb7)
  clear hs5 hs6 hb6 hs7 hb7 hb5 hb0
  go_wp2_with fail
  refine (told17 _).mono ?_
  rintro e w9 ⟨rfl, hb9⟩
  have HY := Lib.hid (And.intro (HX.out.1.below hb9 HX.out.1.lt) (HX.out.2.trans (hb9.mono HX.out.2.size)))
  clear hs4 hf4 hb9 HX
  have hs4 := HY.out.1.four
  have hN : (0 : Int) < 1 := by decide
  go_wp2_with fail
  refine (may_any _ _ _ _ _ _ _).mono ?_
  rintro e wb ⟨rfl, hbb⟩
  rw [hflip.out]
  have hfin := HY.out.2.trans (hbb.mono HY.out.2.size)
  clear hs4 HY hbb
  go_wp2_with fail
  go_ret
  exact ⟨ret_boolB (by simp), hfin⟩
set_option maxRecDepth 20000 in
set_option maxHeartbeats 8000000 in
theorem sbd_1D (n m p : Int) (c i : Nat) (w : World) (hn : (IntKind.u64.wrap n).tmod 5 = (c : Int)) (hm : (IntKind.u64.wrap m).tmod 6 = (i : Int)) (hi : i < 6) (hp : (IntKind.u64.wrap p).tmod 4 = 1) (hc : c < 3 ∧ 1 ≤ (i : Int) - 1 ∧ (i : Int) - 1 ≤ 3) :
    Calls Try.prog 23 #[.int .i64 n, .int .i64 m, .int .i64 p] w fun e w' => e = .returned (.bool true) ∧ Below w.heap.size w w' := by
  have hc3 := wrap64_small c (by omega)
  have hi3 := wrap64_small i (by omega)
  obtain ⟨l, hl⟩ : ∃ l : List UInt8, Hid (l = List.replicate (12098 + c) 0) := ⟨_, rfl⟩
  have hln : l.length = 12098 + c := by rw [hl.out, List.length_replicate]
  obtain ⟨hc, hh⟩ := hc
  obtain ⟨hh1, hh2⟩ := hh
  have hmay : Hid (mayB ((i : Int) - 1) 0 ((i : Int) - 1 == 3) (12098 + c) = true) := Lib.hid (may_ok _ _ _ (by omega) (by omega) (by omega) (by omega) (by omega))
  have hflip := Lib.hid (sb_flip ((i : Int) - 1) 0 (12098 + c))
  go_enter Try.func23, Try.ntmps23
  have hb0 : Below w.heap.size w (w.alloc (.cells #[.int .i64 (-1), .int .i64 0, .int .i64 1048576, .int .i64 1048577] 3)) := (Below.refl _ _).alloc (Nat.le_refl _) _
  go_wp2_with (at_make; refine wpList_mk (base := 0) (n := 12098 + c) rfl (.tmp 34) (.tmp 34) rfl (by rfl) (by rfl) (by omega) (Nat.zero_le _) ?_; intro g w5 ho5 hg5 hgr5; have hB5 := ho5.bts; rw [← hl.out] at hB5; have hB5 := Lib.hid hB5; have hb5 := Lib.hid (hb0.grown hgr5 (by simp) (by simp)); clear ho5 hgr5 hg5)
  refine (sb_good _ _ _ _ l _ _ hln _ (hB5.out.alloc _) hmay).mono ?_
  rintro e w6 ⟨A6, c6, N6, rfl, hb6⟩
  have hs5 := Holds.newAt w5 81 [.int .i64 ((i : Int) - 1), .int .i64 0, .bool ((i : Int) - 1 == 3), .slice (some ⟨g, 0, none⟩) (12098 + c) (12098 + c)] (n := w5.heap.size) rfl
  have hs6 := hs5.below hb6 hs5.lt
  have hs4 := hs6.four
  have hf4 := hs6.fourFree
  have hs7 : Holds (w6.setCell ⟨w5.heap.size, 2, none⟩ (.bool (!((i : Int) - 1 == 3)))) w5.heap.size 81 [.int .i64 ((i : Int) - 1), .int .i64 0, .bool (!((i : Int) - 1 == 3)), .slice (some ⟨g, 0, none⟩) (12098 + c) (12098 + c)] := hs6.set 2 (.bool (!((i : Int) - 1 == 3)))
  have hz5 := hb5.out.size
  have hb7 := ((hb5.out.alloc hb5.out.size (.cells #[.int .i64 ((i : Int) - 1), .int .i64 0, .bool ((i : Int) - 1 == 3), .slice (some ⟨g, 0, none⟩) (12098 + c) (12098 + c)] 81)).trans (hb6.mono (by simp; omega))).setCell (p := ⟨w5.heap.size, 2, none⟩) (show w.heap.size ≤ w5.heap.size by omega) (.bool (!((i : Int) - 1 == 3)))
  have HX := Lib.hid (And.intro hs7 hb7)
  clear hs5 hs6 hb6 hs7 hb7 hb5 hb0
  go_wp2_with fail
  refine (told17 _).mono ?_
  rintro e w9 ⟨rfl, hb9⟩
  have HY := Lib.hid (And.intro (HX.out.1.below hb9 HX.out.1.lt) (HX.out.2.trans (hb9.mono HX.out.2.size)))
  clear hs4 hf4 hb9 HX
  have hs4 := HY.out.1.four
  have hN : (0 : Int) < 1 := by decide
  go_wp2_with fail
  refine (may_any _ _ _ _ _ _ _).mono ?_
  rintro e wb ⟨rfl, hbb⟩
  rw [hflip.out]
  have hfin := HY.out.2.trans (hbb.mono HY.out.2.size)
  clear hs4 HY hbb
  go_wp2_with fail
  go_ret
  exact ⟨ret_boolB (by simp), hfin⟩
set_option maxRecDepth 20000 in
set_option maxHeartbeats 8000000 in
theorem sbd_2L (n m p : Int) (c i : Nat) (w : World) (hn : (IntKind.u64.wrap n).tmod 5 = (c : Int)) (hm : (IntKind.u64.wrap m).tmod 6 = (i : Int)) (hi : i < 6) (hp : (IntKind.u64.wrap p).tmod 4 = 2) (hc : 3 ≤ c ∧ c < 5) :
    Calls Try.prog 23 #[.int .i64 n, .int .i64 m, .int .i64 p] w fun e w' => e = .returned (.bool true) ∧ Below w.heap.size w w' := by
  have hc3 := wrap64_small c (by omega)
  have hi3 := wrap64_small i (by omega)
  obtain ⟨l, hl⟩ : ∃ l : List UInt8, Hid (l = List.replicate (12098 + c) 0) := ⟨_, rfl⟩
  have hln : l.length = 12098 + c := by rw [hl.out, List.length_replicate]
  have hmay : Hid (mayB ((i : Int) - 1) 1048576 ((i : Int) - 1 == 3) (12098 + c) = false) := Lib.hid (may_no _ _ _ _ (by omega))
  have hflip := Lib.hid (sb_flip ((i : Int) - 1) 1048576 (12098 + c))
  go_enter Try.func23, Try.ntmps23
  have hb0 : Below w.heap.size w (w.alloc (.cells #[.int .i64 (-1), .int .i64 0, .int .i64 1048576, .int .i64 1048577] 3)) := (Below.refl _ _).alloc (Nat.le_refl _) _
  go_wp2_with (at_make; refine wpList_mk (base := 0) (n := 12098 + c) rfl (.tmp 34) (.tmp 34) rfl (by rfl) (by rfl) (by omega) (Nat.zero_le _) ?_; intro g w5 ho5 hg5 hgr5; have hB5 := ho5.bts; rw [← hl.out] at hB5; have hB5 := Lib.hid hB5; have hb5 := Lib.hid (hb0.grown hgr5 (by simp) (by simp)); clear ho5 hgr5 hg5)
  refine (sb_bad _ _ _ _ _ _ _ hmay).mono ?_
  rintro e w6 ⟨rfl, hb6⟩
  have hs5 := Holds.newAt w5 81 [.int .i64 ((i : Int) - 1), .int .i64 1048576, .bool ((i : Int) - 1 == 3), .slice (some ⟨g, 0, none⟩) (12098 + c) (12098 + c)] (n := w5.heap.size) rfl
  have hs6 := hs5.below hb6 hs5.lt
  have hs4 := hs6.four
  have hf4 := hs6.fourFree
  have hs7 : Holds (w6.setCell ⟨w5.heap.size, 2, none⟩ (.bool (!((i : Int) - 1 == 3)))) w5.heap.size 81 [.int .i64 ((i : Int) - 1), .int .i64 1048576, .bool (!((i : Int) - 1 == 3)), .slice (some ⟨g, 0, none⟩) (12098 + c) (12098 + c)] := hs6.set 2 (.bool (!((i : Int) - 1 == 3)))
  have hz5 := hb5.out.size
  have hb7 := ((hb5.out.alloc hb5.out.size (.cells #[.int .i64 ((i : Int) - 1), .int .i64 1048576, .bool ((i : Int) - 1 == 3), .slice (some ⟨g, 0, none⟩) (12098 + c) (12098 + c)] 81)).trans (hb6.mono (by simp; omega))).setCell (p := ⟨w5.heap.size, 2, none⟩) (show w.heap.size ≤ w5.heap.size by omega) (.bool (!((i : Int) - 1 == 3)))
  have HX := Lib.hid (And.intro hs7 hb7)
  clear hs5 hs6 hb6 hs7 hb7 hb5 hb0
  go_wp2_with fail
  refine (told17 _).mono ?_
  rintro e w9 ⟨rfl, hb9⟩
  have HY := Lib.hid (And.intro (HX.out.1.below hb9 HX.out.1.lt) (HX.out.2.trans (hb9.mono HX.out.2.size)))
  clear hs4 hf4 hb9 HX
  have hs4 := HY.out.1.four
  have hN : (0 : Int) < 1 := by decide
  go_wp2_with fail
  refine (may_any _ _ _ _ _ _ _).mono ?_
  rintro e wb ⟨rfl, hbb⟩
  rw [hflip.out]
  have hfin := HY.out.2.trans (hbb.mono HY.out.2.size)
  clear hs4 HY hbb
  go_wp2_with fail
  go_ret
  exact ⟨ret_boolB (by simp), hfin⟩
set_option maxRecDepth 20000 in
set_option maxHeartbeats 8000000 in
theorem sbd_2A (n m p : Int) (c i : Nat) (w : World) (hn : (IntKind.u64.wrap n).tmod 5 = (c : Int)) (hm : (IntKind.u64.wrap m).tmod 6 = (i : Int)) (hi : i < 6) (hp : (IntKind.u64.wrap p).tmod 4 = 2) (hc : c < 3 ∧ (i : Int) - 1 < 1) :
    Calls Try.prog 23 #[.int .i64 n, .int .i64 m, .int .i64 p] w fun e w' => e = .returned (.bool true) ∧ Below w.heap.size w w' := by
  have hc3 := wrap64_small c (by omega)
  have hi3 := wrap64_small i (by omega)
  obtain ⟨l, hl⟩ : ∃ l : List UInt8, Hid (l = List.replicate (12098 + c) 0) := ⟨_, rfl⟩
  have hln : l.length = 12098 + c := by rw [hl.out, List.length_replicate]
  obtain ⟨hc, hh⟩ := hc
  have hmay : Hid (mayB ((i : Int) - 1) 1048576 ((i : Int) - 1 == 3) (12098 + c) = false) := Lib.hid (may_no _ _ _ _ (by omega))
  have hflip := Lib.hid (sb_flip ((i : Int) - 1) 1048576 (12098 + c))
  go_enter Try.func23, Try.ntmps23
  have hb0 : Below w.heap.size w (w.alloc (.cells #[.int .i64 (-1), .int .i64 0, .int .i64 1048576, .int .i64 1048577] 3)) := (Below.refl _ _).alloc (Nat.le_refl _) _
  go_wp2_with (at_make; refine wpList_mk (base := 0) (n := 12098 + c) rfl (.tmp 34) (.tmp 34) rfl (by rfl) (by rfl) (by omega) (Nat.zero_le _) ?_; intro g w5 ho5 hg5 hgr5; have hB5 := ho5.bts; rw [← hl.out] at hB5; have hB5 := Lib.hid hB5; have hb5 := Lib.hid (hb0.grown hgr5 (by simp) (by simp)); clear ho5 hgr5 hg5)
  refine (sb_bad _ _ _ _ _ _ _ hmay).mono ?_
  rintro e w6 ⟨rfl, hb6⟩
  have hs5 := Holds.newAt w5 81 [.int .i64 ((i : Int) - 1), .int .i64 1048576, .bool ((i : Int) - 1 == 3), .slice (some ⟨g, 0, none⟩) (12098 + c) (12098 + c)] (n := w5.heap.size) rfl
  have hs6 := hs5.below hb6 hs5.lt
  have hs4 := hs6.four
  have hf4 := hs6.fourFree
  have hs7 : Holds (w6.setCell ⟨w5.heap.size, 2, none⟩ (.bool (!((i : Int) - 1 == 3)))) w5.heap.size 81 [.int .i64 ((i : Int) - 1), .int .i64 1048576, .bool (!((i : Int) - 1 == 3)), .slice (some ⟨g, 0, none⟩) (12098 + c) (12098 + c)] := hs6.set 2 (.bool (!((i : Int) - 1 == 3)))
  have hz5 := hb5.out.size
  have hb7 := ((hb5.out.alloc hb5.out.size (.cells #[.int .i64 ((i : Int) - 1), .int .i64 1048576, .bool ((i : Int) - 1 == 3), .slice (some ⟨g, 0, none⟩) (12098 + c) (12098 + c)] 81)).trans (hb6.mono (by simp; omega))).setCell (p := ⟨w5.heap.size, 2, none⟩) (show w.heap.size ≤ w5.heap.size by omega) (.bool (!((i : Int) - 1 == 3)))
  have HX := Lib.hid (And.intro hs7 hb7)
  clear hs5 hs6 hb6 hs7 hb7 hb5 hb0
  go_wp2_with fail
  refine (told17 _).mono ?_
  rintro e w9 ⟨rfl, hb9⟩
  have HY := Lib.hid (And.intro (HX.out.1.below hb9 HX.out.1.lt) (HX.out.2.trans (hb9.mono HX.out.2.size)))
  clear hs4 hf4 hb9 HX
  have hs4 := HY.out.1.four
  have hN : (0 : Int) < 1 := by decide
  go_wp2_with fail
  refine (may_any _ _ _ _ _ _ _).mono ?_
  rintro e wb ⟨rfl, hbb⟩
  rw [hflip.out]
  have hfin := HY.out.2.trans (hbb.mono HY.out.2.size)
  clear hs4 HY hbb
  go_wp2_with fail
  go_ret
  exact ⟨ret_boolB (by simp), hfin⟩
set_option maxRecDepth 20000 in
set_option maxHeartbeats 8000000 in
theorem sbd_2B (n m p : Int) (c i : Nat) (w : World) (hn : (IntKind.u64.wrap n).tmod 5 = (c : Int)) (hm : (IntKind.u64.wrap m).tmod 6 = (i : Int)) (hi : i < 6) (hp : (IntKind.u64.wrap p).tmod 4 = 2) (hc : c < 3 ∧ 1 ≤ (i : Int) - 1 ∧ 3 < (i : Int) - 1) :
    Calls Try.prog 23 #[.int .i64 n, .int .i64 m, .int .i64 p] w fun e w' => e = .returned (.bool true) ∧ Below w.heap.size w w' := by
  have hc3 := wrap64_small c (by omega)
  have hi3 := wrap64_small i (by omega)
  obtain ⟨l, hl⟩ : ∃ l : List UInt8, Hid (l = List.replicate (12098 + c) 0) := ⟨_, rfl⟩
  have hln : l.length = 12098 + c := by rw [hl.out, List.length_replicate]
  obtain ⟨hc, hh⟩ := hc
  obtain ⟨hh1, hh2⟩ := hh
  have hmay : Hid (mayB ((i : Int) - 1) 1048576 ((i : Int) - 1 == 3) (12098 + c) = false) := Lib.hid (may_no _ _ _ _ (by omega))
  have hflip := Lib.hid (sb_flip ((i : Int) - 1) 1048576 (12098 + c))
  go_enter Try.func23, Try.ntmps23
  have hb0 : Below w.heap.size w (w.alloc (.cells #[.int .i64 (-1), .int .i64 0, .int .i64 1048576, .int .i64 1048577] 3)) := (Below.refl _ _).alloc (Nat.le_refl _) _
  go_wp2_with (at_make; refine wpList_mk (base := 0) (n := 12098 + c) rfl (.tmp 34) (.tmp 34) rfl (by rfl) (by rfl) (by omega) (Nat.zero_le _) ?_; intro g w5 ho5 hg5 hgr5; have hB5 := ho5.bts; rw [← hl.out] at hB5; have hB5 := Lib.hid hB5; have hb5 := Lib.hid (hb0.grown hgr5 (by simp) (by simp)); clear ho5 hgr5 hg5)
  refine (sb_bad _ _ _ _ _ _ _ hmay).mono ?_
  rintro e w6 ⟨rfl, hb6⟩
  have hs5 := Holds.newAt w5 81 [.int .i64 ((i : Int) - 1), .int .i64 1048576, .bool ((i : Int) - 1 == 3), .slice (some ⟨g, 0, none⟩) (12098 + c) (12098 + c)] (n := w5.heap.size) rfl
  have hs6 := hs5.below hb6 hs5.lt
  have hs4 := hs6.four
  have hf4 := hs6.fourFree
  have hs7 : Holds (w6.setCell ⟨w5.heap.size, 2, none⟩ (.bool (!((i : Int) - 1 == 3)))) w5.heap.size 81 [.int .i64 ((i : Int) - 1), .int .i64 1048576, .bool (!((i : Int) - 1 == 3)), .slice (some ⟨g, 0, none⟩) (12098 + c) (12098 + c)] := hs6.set 2 (.bool (!((i : Int) - 1 == 3)))
  have hz5 := hb5.out.size
  have hb7 := ((hb5.out.alloc hb5.out.size (.cells #[.int .i64 ((i : Int) - 1), .int .i64 1048576, .bool ((i : Int) - 1 == 3), .slice (some ⟨g, 0, none⟩) (12098 + c) (12098 + c)] 81)).trans (hb6.mono (by simp; omega))).setCell (p := ⟨w5.heap.size, 2, none⟩) (show w.heap.size ≤ w5.heap.size by omega) (.bool (!((i : Int) - 1 == 3)))
  have HX := Lib.hid (And.intro hs7 hb7)
  clear hs5 hs6 hb6 hs7 hb7 hb5 hb0
  go_wp2_with fail
  refine (told17 _).mono ?_
  rintro e w9 ⟨rfl, hb9⟩
  have HY := Lib.hid (And.intro (HX.out.1.below hb9 HX.out.1.lt) (HX.out.2.trans (hb9.mono HX.out.2.size)))
  clear hs4 hf4 hb9 HX
  have hs4 := HY.out.1.four
  have hN : (0 : Int) < 1 := by decide
  go_wp2_with fail
  refine (may_any _ _ _ _ _ _ _).mono ?_
  rintro e wb ⟨rfl, hbb⟩
  rw [hflip.out]
  have hfin := HY.out.2.trans (hbb.mono HY.out.2.size)
  clear hs4 HY hbb
  go_wp2_with fail
  go_ret
  exact ⟨ret_boolB (by simp), hfin⟩
set_option maxRecDepth 20000 in
set_option maxHeartbeats 8000000 in
theorem sbd_2D (n m p : Int) (c i : Nat) (w : World) (hn : (IntKind.u64.wrap n).tmod 5 = (c : Int)) (hm : (IntKind.u64.wrap m).tmod 6 = (i : Int)) (hi : i < 6) (hp : (IntKind.u64.wrap p).tmod 4 = 2) (hc : c < 3 ∧ 1 ≤ (i : Int) - 1 ∧ (i : Int) - 1 ≤ 3) :
    Calls Try.prog 23 #[.int .i64 n, .int .i64 m, .int .i64 p] w fun e w' => e = .returned (.bool true) ∧ Below w.heap.size w w' := by
  have hc3 := wrap64_small c (by omega)
  have hi3 := wrap64_small i (by omega)
  obtain ⟨l, hl⟩ : ∃ l : List UInt8, Hid (l = List.replicate (12098 + c) 0) := ⟨_, rfl⟩
  have hln : l.length = 12098 + c := by rw [hl.out, List.length_replicate]
  obtain ⟨hc, hh⟩ := hc
  obtain ⟨hh1, hh2⟩ := hh
  have hmay : Hid (mayB ((i : Int) - 1) 1048576 ((i : Int) - 1 == 3) (12098 + c) = true) := Lib.hid (may_ok _ _ _ (by omega) (by omega) (by omega) (by omega) (by omega))
  have hflip := Lib.hid (sb_flip ((i : Int) - 1) 1048576 (12098 + c))
  go_enter Try.func23, Try.ntmps23
  have hb0 : Below w.heap.size w (w.alloc (.cells #[.int .i64 (-1), .int .i64 0, .int .i64 1048576, .int .i64 1048577] 3)) := (Below.refl _ _).alloc (Nat.le_refl _) _
  go_wp2_with (at_make; refine wpList_mk (base := 0) (n := 12098 + c) rfl (.tmp 34) (.tmp 34) rfl (by rfl) (by rfl) (by omega) (Nat.zero_le _) ?_; intro g w5 ho5 hg5 hgr5; have hB5 := ho5.bts; rw [← hl.out] at hB5; have hB5 := Lib.hid hB5; have hb5 := Lib.hid (hb0.grown hgr5 (by simp) (by simp)); clear ho5 hgr5 hg5)
  refine (sb_good _ _ _ _ l _ _ hln _ (hB5.out.alloc _) hmay).mono ?_
  rintro e w6 ⟨A6, c6, N6, rfl, hb6⟩
  have hs5 := Holds.newAt w5 81 [.int .i64 ((i : Int) - 1), .int .i64 1048576, .bool ((i : Int) - 1 == 3), .slice (some ⟨g, 0, none⟩) (12098 + c) (12098 + c)] (n := w5.heap.size) rfl
  have hs6 := hs5.below hb6 hs5.lt
  have hs4 := hs6.four
  have hf4 := hs6.fourFree
  have hs7 : Holds (w6.setCell ⟨w5.heap.size, 2, none⟩ (.bool (!((i : Int) - 1 == 3)))) w5.heap.size 81 [.int .i64 ((i : Int) - 1), .int .i64 1048576, .bool (!((i : Int) - 1 == 3)), .slice (some ⟨g, 0, none⟩) (12098 + c) (12098 + c)] := hs6.set 2 (.bool (!((i : Int) - 1 == 3)))
  have hz5 := hb5.out.size
  have hb7 := ((hb5.out.alloc hb5.out.size (.cells #[.int .i64 ((i : Int) - 1), .int .i64 1048576, .bool ((i : Int) - 1 == 3), .slice (some ⟨g, 0, none⟩) (12098 + c) (12098 + c)] 81)).trans (hb6.mono (by simp; omega))).setCell (p := ⟨w5.heap.size, 2, none⟩) (show w.heap.size ≤ w5.heap.size by omega) (.bool (!((i : Int) - 1 == 3)))
  have HX := Lib.hid (And.intro hs7 hb7)
  clear hs5 hs6 hb6 hs7 hb7 hb5 hb0
  go_wp2_with fail
  refine (told17 _).mono ?_
  rintro e w9 ⟨rfl, hb9⟩
  have HY := Lib.hid (And.intro (HX.out.1.below hb9 HX.out.1.lt) (HX.out.2.trans (hb9.mono HX.out.2.size)))
  clear hs4 hf4 hb9 HX
  have hs4 := HY.out.1.four
  have hN : (0 : Int) < 1 := by decide
  go_wp2_with fail
  refine (may_any _ _ _ _ _ _ _).mono ?_
  rintro e wb ⟨rfl, hbb⟩
  rw [hflip.out]
  have hfin := HY.out.2.trans (hbb.mono HY.out.2.size)
  clear hs4 HY hbb
  go_wp2_with fail
  go_ret
  exact ⟨ret_boolB (by simp), hfin⟩
set_option maxRecDepth 20000 in
set_option maxHeartbeats 8000000 in
theorem sbd_3L (n m p : Int) (c i : Nat) (w : World) (hn : (IntKind.u64.wrap n).tmod 5 = (c : Int)) (hm : (IntKind.u64.wrap m).tmod 6 = (i : Int)) (hi : i < 6) (hp : (IntKind.u64.wrap p).tmod 4 = 3) (hc : 3 ≤ c ∧ c < 5) :
    Calls Try.prog 23 #[.int .i64 n, .int .i64 m, .int .i64 p] w fun e w' => e = .returned (.bool true) ∧ Below w.heap.size w w' := by
  have hc3 := wrap64_small c (by omega)
  have hi3 := wrap64_small i (by omega)
  obtain ⟨l, hl⟩ : ∃ l : List UInt8, Hid (l = List.replicate (12098 + c) 0) := ⟨_, rfl⟩
  have hln : l.length = 12098 + c := by rw [hl.out, List.length_replicate]
  have hmay : Hid (mayB ((i : Int) - 1) 1048577 ((i : Int) - 1 == 3) (12098 + c) = false) := Lib.hid (may_no _ _ _ _ (by omega))
  have hflip := Lib.hid (sb_flip ((i : Int) - 1) 1048577 (12098 + c))
  go_enter Try.func23, Try.ntmps23
  have hb0 : Below w.heap.size w (w.alloc (.cells #[.int .i64 (-1), .int .i64 0, .int .i64 1048576, .int .i64 1048577] 3)) := (Below.refl _ _).alloc (Nat.le_refl _) _
  go_wp2_with (at_make; refine wpList_mk (base := 0) (n := 12098 + c) rfl (.tmp 34) (.tmp 34) rfl (by rfl) (by rfl) (by omega) (Nat.zero_le _) ?_; intro g w5 ho5 hg5 hgr5; have hB5 := ho5.bts; rw [← hl.out] at hB5; have hB5 := Lib.hid hB5; have hb5 := Lib.hid (hb0.grown hgr5 (by simp) (by simp)); clear ho5 hgr5 hg5)
  refine (sb_bad _ _ _ _ _ _ _ hmay).mono ?_
  rintro e w6 ⟨rfl, hb6⟩
  have hs5 := Holds.newAt w5 81 [.int .i64 ((i : Int) - 1), .int .i64 1048577, .bool ((i : Int) - 1 == 3), .slice (some ⟨g, 0, none⟩) (12098 + c) (12098 + c)] (n := w5.heap.size) rfl
  have hs6 := hs5.below hb6 hs5.lt
  have hs4 := hs6.four
  have hf4 := hs6.fourFree
  have hs7 : Holds (w6.setCell ⟨w5.heap.size, 2, none⟩ (.bool (!((i : Int) - 1 == 3)))) w5.heap.size 81 [.int .i64 ((i : Int) - 1), .int .i64 1048577, .bool (!((i : Int) - 1 == 3)), .slice (some ⟨g, 0, none⟩) (12098 + c) (12098 + c)] := hs6.set 2 (.bool (!((i : Int) - 1 == 3)))
  have hz5 := hb5.out.size
  have hb7 := ((hb5.out.alloc hb5.out.size (.cells #[.int .i64 ((i : Int) - 1), .int .i64 1048577, .bool ((i : Int) - 1 == 3), .slice (some ⟨g, 0, none⟩) (12098 + c) (12098 + c)] 81)).trans (hb6.mono (by simp; omega))).setCell (p := ⟨w5.heap.size, 2, none⟩) (show w.heap.size ≤ w5.heap.size by omega) (.bool (!((i : Int) - 1 == 3)))
  have HX := Lib.hid (And.intro hs7 hb7)
  clear hs5 hs6 hb6 hs7 hb7 hb5 hb0
  go_wp2_with fail
  refine (told17 _).mono ?_
  rintro e w9 ⟨rfl, hb9⟩
  have HY := Lib.hid (And.intro (HX.out.1.below hb9 HX.out.1.lt) (HX.out.2.trans (hb9.mono HX.out.2.size)))
  clear hs4 hf4 hb9 HX
  have hs4 := HY.out.1.four
  have hN : (0 : Int) < 1 := by decide
  go_wp2_with fail
  refine (may_any _ _ _ _ _ _ _).mono ?_
  rintro e wb ⟨rfl, hbb⟩
  rw [hflip.out]
  have hfin := HY.out.2.trans (hbb.mono HY.out.2.size)
  clear hs4 HY hbb
  go_wp2_with fail
  go_ret
  exact ⟨ret_boolB (by simp), hfin⟩
set_option maxRecDepth 20000 in
set_option maxHeartbeats 8000000 in
theorem sbd_3A (n m p : Int) (c i : Nat) (w : World) (hn : (IntKind.u64.wrap n).tmod 5 = (c : Int)) (hm : (IntKind.u64.wrap m).tmod 6 = (i : Int)) (hi : i < 6) (hp : (IntKind.u64.wrap p).tmod 4 = 3) (hc : c < 3 ∧ (i : Int) - 1 < 1) :
    Calls Try.prog 23 #[.int .i64 n, .int .i64 m, .int .i64 p] w fun e w' => e = .returned (.bool true) ∧ Below w.heap.size w w' := by
  have hc3 := wrap64_small c (by omega)
  have hi3 := wrap64_small i (by omega)
  obtain ⟨l, hl⟩ : ∃ l : List UInt8, Hid (l = List.replicate (12098 + c) 0) := ⟨_, rfl⟩
  have hln : l.length = 12098 + c := by rw [hl.out, List.length_replicate]
  obtain ⟨hc, hh⟩ := hc
  have hmay : Hid (mayB ((i : Int) - 1) 1048577 ((i : Int) - 1 == 3) (12098 + c) = false) := Lib.hid (may_no _ _ _ _ (by omega))
  have hflip := Lib.hid (sb_flip ((i : Int) - 1) 1048577 (12098 + c))
  go_enter Try.func23, Try.ntmps23
  have hb0 : Below w.heap.size w (w.alloc (.cells #[.int .i64 (-1), .int .i64 0, .int .i64 1048576, .int .i64 1048577] 3)) := (Below.refl _ _).alloc (Nat.le_refl _) _
  go_wp2_with (at_make; refine wpList_mk (base := 0) (n := 12098 + c) rfl (.tmp 34) (.tmp 34) rfl (by rfl) (by rfl) (by omega) (Nat.zero_le _) ?_; intro g w5 ho5 hg5 hgr5; have hB5 := ho5.bts; rw [← hl.out] at hB5; have hB5 := Lib.hid hB5; have hb5 := Lib.hid (hb0.grown hgr5 (by simp) (by simp)); clear ho5 hgr5 hg5)
  refine (sb_bad _ _ _ _ _ _ _ hmay).mono ?_
  rintro e w6 ⟨rfl, hb6⟩
  have hs5 := Holds.newAt w5 81 [.int .i64 ((i : Int) - 1), .int .i64 1048577, .bool ((i : Int) - 1 == 3), .slice (some ⟨g, 0, none⟩) (12098 + c) (12098 + c)] (n := w5.heap.size) rfl
  have hs6 := hs5.below hb6 hs5.lt
  have hs4 := hs6.four
  have hf4 := hs6.fourFree
  have hs7 : Holds (w6.setCell ⟨w5.heap.size, 2, none⟩ (.bool (!((i : Int) - 1 == 3)))) w5.heap.size 81 [.int .i64 ((i : Int) - 1), .int .i64 1048577, .bool (!((i : Int) - 1 == 3)), .slice (some ⟨g, 0, none⟩) (12098 + c) (12098 + c)] := hs6.set 2 (.bool (!((i : Int) - 1 == 3)))
  have hz5 := hb5.out.size
  have hb7 := ((hb5.out.alloc hb5.out.size (.cells #[.int .i64 ((i : Int) - 1), .int .i64 1048577, .bool ((i : Int) - 1 == 3), .slice (some ⟨g, 0, none⟩) (12098 + c) (12098 + c)] 81)).trans (hb6.mono (by simp; omega))).setCell (p := ⟨w5.heap.size, 2, none⟩) (show w.heap.size ≤ w5.heap.size by omega) (.bool (!((i : Int) - 1 == 3)))
  have HX := Lib.hid (And.intro hs7 hb7)
  clear hs5 hs6 hb6 hs7 hb7 hb5 hb0
  go_wp2_with fail
  refine (told17 _).mono ?_
  rintro e w9 ⟨rfl, hb9⟩
  have HY := Lib.hid (And.intro (HX.out.1.below hb9 HX.out.1.lt) (HX.out.2.trans (hb9.mono HX.out.2.size)))
  clear hs4 hf4 hb9 HX
  have hs4 := HY.out.1.four
  have hN : (0 : Int) < 1 := by decide
  go_wp2_with fail
  refine (may_any _ _ _ _ _ _ _).mono ?_
  rintro e wb ⟨rfl, hbb⟩
  rw [hflip.out]
  have hfin := HY.out.2.trans (hbb.mono HY.out.2.size)
  clear hs4 HY hbb
  go_wp2_with fail
  go_ret
  exact ⟨ret_boolB (by simp), hfin⟩
set_option maxRecDepth 20000 in
set_option maxHeartbeats 8000000 in
theorem sbd_3B (n m p : Int) (c i : Nat) (w : World) (hn : (IntKind.u64.wrap n).tmod 5 = (c : Int)) (hm : (IntKind.u64.wrap m).tmod 6 = (i : Int)) (hi : i < 6) (hp : (IntKind.u64.wrap p).tmod 4 = 3) (hc : c < 3 ∧ 1 ≤ (i : Int) - 1 ∧ 3 < (i : Int) - 1) :
    Calls Try.prog 23 #[.int .i64 n, .int .i64 m, .int .i64 p] w fun e w' => e = .returned (.bool true) ∧ Below w.heap.size w w' := by
  have hc3 := wrap64_small c (by omega)
  have hi3 := wrap64_small i (by omega)
  obtain ⟨l, hl⟩ : ∃ l : List UInt8, Hid (l = List.replicate (12098 + c) 0) := ⟨_, rfl⟩
  have hln : l.length = 12098 + c := by rw [hl.out, List.length_replicate]
  obtain ⟨hc, hh⟩ := hc
  obtain ⟨hh1, hh2⟩ := hh
  have hmay : Hid (mayB ((i : Int) - 1) 1048577 ((i : Int) - 1 == 3) (12098 + c) = false) := Lib.hid (may_no _ _ _ _ (by omega))
  have hflip := Lib.hid (sb_flip ((i : Int) - 1) 1048577 (12098 + c))
  go_enter Try.func23, Try.ntmps23
  have hb0 : Below w.heap.size w (w.alloc (.cells #[.int .i64 (-1), .int .i64 0, .int .i64 1048576, .int .i64 1048577] 3)) := (Below.refl _ _).alloc (Nat.le_refl _) _
  go_wp2_with (at_make; refine wpList_mk (base := 0) (n := 12098 + c) rfl (.tmp 34) (.tmp 34) rfl (by rfl) (by rfl) (by omega) (Nat.zero_le _) ?_; intro g w5 ho5 hg5 hgr5; have hB5 := ho5.bts; rw [← hl.out] at hB5; have hB5 := Lib.hid hB5; have hb5 := Lib.hid (hb0.grown hgr5 (by simp) (by simp)); clear ho5 hgr5 hg5)
  refine (sb_bad _ _ _ _ _ _ _ hmay).mono ?_
  rintro e w6 ⟨rfl, hb6⟩
  have hs5 := Holds.newAt w5 81 [.int .i64 ((i : Int) - 1), .int .i64 1048577, .bool ((i : Int) - 1 == 3), .slice (some ⟨g, 0, none⟩) (12098 + c) (12098 + c)] (n := w5.heap.size) rfl
  have hs6 := hs5.below hb6 hs5.lt
  have hs4 := hs6.four
  have hf4 := hs6.fourFree
  have hs7 : Holds (w6.setCell ⟨w5.heap.size, 2, none⟩ (.bool (!((i : Int) - 1 == 3)))) w5.heap.size 81 [.int .i64 ((i : Int) - 1), .int .i64 1048577, .bool (!((i : Int) - 1 == 3)), .slice (some ⟨g, 0, none⟩) (12098 + c) (12098 + c)] := hs6.set 2 (.bool (!((i : Int) - 1 == 3)))
  have hz5 := hb5.out.size
  have hb7 := ((hb5.out.alloc hb5.out.size (.cells #[.int .i64 ((i : Int) - 1), .int .i64 1048577, .bool ((i : Int) - 1 == 3), .slice (some ⟨g, 0, none⟩) (12098 + c) (12098 + c)] 81)).trans (hb6.mono (by simp; omega))).setCell (p := ⟨w5.heap.size, 2, none⟩) (show w.heap.size ≤ w5.heap.size by omega) (.bool (!((i : Int) - 1 == 3)))
  have HX := Lib.hid (And.intro hs7 hb7)
  clear hs5 hs6 hb6 hs7 hb7 hb5 hb0
  go_wp2_with fail
  refine (told17 _).mono ?_
  rintro e w9 ⟨rfl, hb9⟩
  have HY := Lib.hid (And.intro (HX.out.1.below hb9 HX.out.1.lt) (HX.out.2.trans (hb9.mono HX.out.2.size)))
  clear hs4 hf4 hb9 HX
  have hs4 := HY.out.1.four
  have hN : (0 : Int) < 1 := by decide
  go_wp2_with fail
  refine (may_any _ _ _ _ _ _ _).mono ?_
  rintro e wb ⟨rfl, hbb⟩
  rw [hflip.out]
  have hfin := HY.out.2.trans (hbb.mono HY.out.2.size)
  clear hs4 HY hbb
  go_wp2_with fail
  go_ret
  exact ⟨ret_boolB (by simp), hfin⟩
set_option maxRecDepth 20000 in
set_option maxHeartbeats 8000000 in
theorem sbd_3D (n m p : Int) (c i : Nat) (w : World) (hn : (IntKind.u64.wrap n).tmod 5 = (c : Int)) (hm : (IntKind.u64.wrap m).tmod 6 = (i : Int)) (hi : i < 6) (hp : (IntKind.u64.wrap p).tmod 4 = 3) (hc : c < 3 ∧ 1 ≤ (i : Int) - 1 ∧ (i : Int) - 1 ≤ 3) :
    Calls Try.prog 23 #[.int .i64 n, .int .i64 m, .int .i64 p] w fun e w' => e = .returned (.bool true) ∧ Below w.heap.size w w' := by
  have hc3 := wrap64_small c (by omega)
  have hi3 := wrap64_small i (by omega)
  obtain ⟨l, hl⟩ : ∃ l : List UInt8, Hid (l = List.replicate (12098 + c) 0) := ⟨_, rfl⟩
  have hln : l.length = 12098 + c := by rw [hl.out, List.length_replicate]
  obtain ⟨hc, hh⟩ := hc
  obtain ⟨hh1, hh2⟩ := hh
  have hmay : Hid (mayB ((i : Int) - 1) 1048577 ((i : Int) - 1 == 3) (12098 + c) = false) := Lib.hid (may_no _ _ _ _ (by omega))
  have hflip := Lib.hid (sb_flip ((i : Int) - 1) 1048577 (12098 + c))
  go_enter Try.func23, Try.ntmps23
  have hb0 : Below w.heap.size w (w.alloc (.cells #[.int .i64 (-1), .int .i64 0, .int .i64 1048576, .int .i64 1048577] 3)) := (Below.refl _ _).alloc (Nat.le_refl _) _
  go_wp2_with (at_make; refine wpList_mk (base := 0) (n := 12098 + c) rfl (.tmp 34) (.tmp 34) rfl (by rfl) (by rfl) (by omega) (Nat.zero_le _) ?_; intro g w5 ho5 hg5 hgr5; have hB5 := ho5.bts; rw [← hl.out] at hB5; have hB5 := Lib.hid hB5; have hb5 := Lib.hid (hb0.grown hgr5 (by simp) (by simp)); clear ho5 hgr5 hg5)
  refine (sb_bad _ _ _ _ _ _ _ hmay).mono ?_
  rintro e w6 ⟨rfl, hb6⟩
  have hs5 := Holds.newAt w5 81 [.int .i64 ((i : Int) - 1), .int .i64 1048577, .bool ((i : Int) - 1 == 3), .slice (some ⟨g, 0, none⟩) (12098 + c) (12098 + c)] (n := w5.heap.size) rfl
  have hs6 := hs5.below hb6 hs5.lt
  have hs4 := hs6.four
  have hf4 := hs6.fourFree
  have hs7 : Holds (w6.setCell ⟨w5.heap.size, 2, none⟩ (.bool (!((i : Int) - 1 == 3)))) w5.heap.size 81 [.int .i64 ((i : Int) - 1), .int .i64 1048577, .bool (!((i : Int) - 1 == 3)), .slice (some ⟨g, 0, none⟩) (12098 + c) (12098 + c)] := hs6.set 2 (.bool (!((i : Int) - 1 == 3)))
  have hz5 := hb5.out.size
  have hb7 := ((hb5.out.alloc hb5.out.size (.cells #[.int .i64 ((i : Int) - 1), .int .i64 1048577, .bool ((i : Int) - 1 == 3), .slice (some ⟨g, 0, none⟩) (12098 + c) (12098 + c)] 81)).trans (hb6.mono (by simp; omega))).setCell (p := ⟨w5.heap.size, 2, none⟩) (show w.heap.size ≤ w5.heap.size by omega) (.bool (!((i : Int) - 1 == 3)))
  have HX := Lib.hid (And.intro hs7 hb7)
  clear hs5 hs6 hb6 hs7 hb7 hb5 hb0
  go_wp2_with fail
  refine (told17 _).mono ?_
  rintro e w9 ⟨rfl, hb9⟩
  have HY := Lib.hid (And.intro (HX.out.1.below hb9 HX.out.1.lt) (HX.out.2.trans (hb9.mono HX.out.2.size)))
  clear hs4 hf4 hb9 HX
  have hs4 := HY.out.1.four
  have hN : (0 : Int) < 1 := by decide
  go_wp2_with fail
  refine (may_any _ _ _ _ _ _ _).mono ?_
  rintro e wb ⟨rfl, hbb⟩
  rw [hflip.out]
  have hfin := HY.out.2.trans (hbb.mono HY.out.2.size)
  clear hs4 HY hbb
  go_wp2_with fail
  go_ret
  exact ⟨ret_boolB (by simp), hfin⟩
theorem walk_SealBounds (n m p : Int) (w : World) (_hn : -9223372036854775808 ≤ n ∧ n < 9223372036854775808) (_hm : -9223372036854775808 ≤ m ∧ m < 9223372036854775808) (_hp : -9223372036854775808 ≤ p ∧ p < 9223372036854775808) :
    Calls Try.prog 23 #[.int .i64 n, .int .i64 m, .int .i64 p] w fun e w' => e = .returned (.bool true) ∧ Below w.heap.size w w' := by
  obtain ⟨c, hc, hc2⟩ := utmod n 5 (by omega)
  obtain ⟨i, hi, hi2⟩ := utmod m 6 (by omega)
  obtain ⟨q, hq, hq2⟩ := utmod p 4 (by omega)
  have hcs : (3 ≤ c ∧ c < 5) ∨ (c < 3 ∧ (i : Int) - 1 < 1) ∨ (c < 3 ∧ 1 ≤ (i : Int) - 1 ∧ 3 < (i : Int) - 1) ∨ (c < 3 ∧ 1 ≤ (i : Int) - 1 ∧ (i : Int) - 1 ≤ 3) := by omega
  obtain rfl | rfl | rfl | rfl : q = 0 ∨ q = 1 ∨ q = 2 ∨ q = 3 := by omega
  · rcases hcs with h | h | h | h
    · exact sbd_0L n m p c i w hc2 hi2 hi hq2 h
    · exact sbd_0A n m p c i w hc2 hi2 hi hq2 h
    · exact sbd_0B n m p c i w hc2 hi2 hi hq2 h
    · exact sbd_0D n m p c i w hc2 hi2 hi hq2 h
  · rcases hcs with h | h | h | h
    · exact sbd_1L n m p c i w hc2 hi2 hi hq2 h
    · exact sbd_1A n m p c i w hc2 hi2 hi hq2 h
    · exact sbd_1B n m p c i w hc2 hi2 hi hq2 h
    · exact sbd_1D n m p c i w hc2 hi2 hi hq2 h
  · rcases hcs with h | h | h | h
    · exact sbd_2L n m p c i w hc2 hi2 hi hq2 h
    · exact sbd_2A n m p c i w hc2 hi2 hi hq2 h
    · exact sbd_2B n m p c i w hc2 hi2 hi hq2 h
    · exact sbd_2D n m p c i w hc2 hi2 hi hq2 h
  · rcases hcs with h | h | h | h
    · exact sbd_3L n m p c i w hc2 hi2 hi hq2 h
    · exact sbd_3A n m p c i w hc2 hi2 hi hq2 h
    · exact sbd_3B n m p c i w hc2 hi2 hi hq2 h
    · exact sbd_3D n m p c i w hc2 hi2 hi hq2 h
end Go.Proofs.Ytcdklmicbbcknaa
