/-
  steamerlaw16.KeyBounds answers true and leaves old memory as it was: by a walk of its text (printed by keybounds.py).
-/
import Derived.Test.YtcdklmicbbcknaaKb
namespace Go.Proofs.Ytcdklmicbbcknaa
open Go Go.RowKit
def SO : S8 := ⟨1, 0, 0, 0, 0, 0, 0, 0⟩
theorem ky_good (l : List UInt8) (n : Nat) (z : Int) (hz : z = n) (M : K8) (hM : Hid (M = keyL l SZ n)) (hl : l.length ≤ 100) (h1 : 1 ≤ n) (h2 : n ≤ 1000) (w : World) :
    Calls Try.prog 37 #[.string (mkStr l), .agg #[.int .u8 0, .int .u8 0, .int .u8 0, .int .u8 0, .int .u8 0, .int .u8 0, .int .u8 0, .int .u8 0], .int .i64 z] w fun e w' => e = .returned (.tuple #[.agg #[.int .u32 (W M.k0), .int .u32 (W M.k1), .int .u32 (W M.k2), .int .u32 (W M.k3), .int .u32 (W M.k4), .int .u32 (W M.k5), .int .u32 (W M.k6), .int .u32 (W M.k7)], .int .i64 0]) ∧ Below w.heap.size w w' := kb_good l SZ n z hz M hM hl h1 h2 w
theorem ky_bad (l : List UInt8) (n : Int) (h : 100 < l.length ∨ n < 1 ∨ 1000 < n) (w : World) :
    Calls Try.prog 37 #[.string (mkStr l), .agg #[.int .u8 0, .int .u8 0, .int .u8 0, .int .u8 0, .int .u8 0, .int .u8 0, .int .u8 0, .int .u8 0], .int .i64 n] w fun e w' => e = .returned (.tuple #[.agg #[.int .u32 0, .int .u32 0, .int .u32 0, .int .u32 0, .int .u32 0, .int .u32 0, .int .u32 0, .int .u32 0], .int .i64 1]) ∧ Below w.heap.size w w' := key_bad l SZ n w h
theorem ky_one (M : K8) (hM : Hid (M = keyL [] SO 1)) (w : World) :
    Calls Try.prog 37 #[.string { data := #[] }, .agg #[.int .u8 1, .int .u8 0, .int .u8 0, .int .u8 0, .int .u8 0, .int .u8 0, .int .u8 0, .int .u8 0], .int .i64 1] w fun e w' => e = .returned (.tuple #[.agg #[.int .u32 (W M.k0), .int .u32 (W M.k1), .int .u32 (W M.k2), .int .u32 (W M.k3), .int .u32 (W M.k4), .int .u32 (W M.k5), .int .u32 (W M.k6), .int .u32 (W M.k7)], .int .i64 0]) ∧ Below w.heap.size w w' := kb_good [] SO 1 1 rfl M hM (by simp) (by omega) (by omega) w
attribute [local go_sem ↓] eql_28_same
set_option maxRecDepth 20000 in
set_option maxHeartbeats 8000000 in
theorem kbd_0s (n m : Int) (c : Nat) (w : World) (hn : (IntKind.u64.wrap n).tmod 5 = (c : Int)) (hm : (IntKind.u64.wrap m).tmod 6 = 0) (hc : c < 3) :
    Calls Try.prog 14 #[.int .i64 n, .int .i64 m] w fun e w' => e = .returned (.bool true) ∧ Below w.heap.size w w' := by
  have hc3 := wrap64_small c (by omega)
  obtain ⟨l, hl⟩ : ∃ l : List UInt8, Hid (l = List.replicate (98 + c) 0) := ⟨_, rfl⟩
  have hln : l.length = 98 + c := by rw [hl.out, List.length_replicate]
  obtain ⟨M, hM⟩ : ∃ M, Hid (M = keyL [] SO 1) := ⟨_, rfl⟩
  go_enter Try.func14, Try.ntmps14
  have hor : bits .or .u32 0 0 = 0 := by decide
  have hb0 : Below w.heap.size w (w.alloc (.cells #[.int .i64 (-1), .int .i64 0, .int .i64 1, .int .i64 2, .int .i64 1000, .int .i64 1001] 3)) := (Below.refl _ _).alloc (Nat.le_refl _) _
  go_wp2_with (at_make; refine wpList_mk (base := 0) (n := 98 + c) rfl (.tmp 26) (.tmp 26) rfl (by rfl) (by rfl) (by omega) (Nat.zero_le _) ?_; intro g w5 ho5 hg5 hgr5; have hB5 := ho5.bts; rw [← hl.out] at hB5; have hst5 : (convert 24 9 (.slice (some ⟨g, 0, none⟩) (98 + c) (98 + c))).run Try.prog w5 = .ok (.string (mkStr l)) w5 := (by have h := run_str hB5 (98 + c); rw [hln] at h; exact h); have hb5 := hb0.grown hgr5 (by simp) (by simp); clear ho5 hB5 hgr5 hg5)
  refine (ky_bad l _ (by omega) _).mono ?_
  rintro e w6 ⟨rfl, hb6⟩
  have hb6' := (hb5.trans (hb6.mono hb5.size)).alloc (by have := hb5.size; have := hb6.size; omega) (.cells #[.int .u32 0, .int .u32 0, .int .u32 0, .int .u32 0, .int .u32 0, .int .u32 0, .int .u32 0, .int .u32 0] 28)
  have hv6 := Holds.newAt w6 28 [.int .u32 0, .int .u32 0, .int .u32 0, .int .u32 0, .int .u32 0, .int .u32 0, .int .u32 0, .int .u32 0] (n := w6.heap.size) rfl
  clear hb0 hb5 hb6 hst5
  go_wp2_with fail
  refine (ky_one M hM _).mono ?_
  rintro e w7 ⟨rfl, hb7⟩
  have hb7' := (hb6'.trans (hb7.mono hb6'.size)).alloc (by have := hb6'.size; have := hb7.size; omega) (.cells #[.int .u32 (W M.k0), .int .u32 (W M.k1), .int .u32 (W M.k2), .int .u32 (W M.k3), .int .u32 (W M.k4), .int .u32 (W M.k5), .int .u32 (W M.k6), .int .u32 (W M.k7)] 28)
  have hv7 := (hv6.below hb7 hv6.lt).alloc (.cells #[.int .u32 (W M.k0), .int .u32 (W M.k1), .int .u32 (W M.k2), .int .u32 (W M.k3), .int .u32 (W M.k4), .int .u32 (W M.k5), .int .u32 (W M.k6), .int .u32 (W M.k7)] 28)
  have hm7 := Holds.newAt w7 28 [.int .u32 (W M.k0), .int .u32 (W M.k1), .int .u32 (W M.k2), .int .u32 (W M.k3), .int .u32 (W M.k4), .int .u32 (W M.k5), .int .u32 (W M.k6), .int .u32 (W M.k7)] (n := w7.heap.size) rfl
  clear hb6' hb7 hv6
  go_wp2_with fail
  refine (ky_one M hM _).mono ?_
  rintro e w8 ⟨rfl, hb8⟩
  have hb8' := (hb7'.trans (hb8.mono hb7'.size)).alloc (by have := hb7'.size; have := hb8.size; omega) (.cells #[.int .u32 (W M.k0), .int .u32 (W M.k1), .int .u32 (W M.k2), .int .u32 (W M.k3), .int .u32 (W M.k4), .int .u32 (W M.k5), .int .u32 (W M.k6), .int .u32 (W M.k7)] 28)
  have hv8 := (hv7.below hb8 hv7.lt).alloc (.cells #[.int .u32 (W M.k0), .int .u32 (W M.k1), .int .u32 (W M.k2), .int .u32 (W M.k3), .int .u32 (W M.k4), .int .u32 (W M.k5), .int .u32 (W M.k6), .int .u32 (W M.k7)] 28)
  have hm8 := (hm7.below hb8 hm7.lt).alloc (.cells #[.int .u32 (W M.k0), .int .u32 (W M.k1), .int .u32 (W M.k2), .int .u32 (W M.k3), .int .u32 (W M.k4), .int .u32 (W M.k5), .int .u32 (W M.k6), .int .u32 (W M.k7)] 28)
  have hp8 := Holds.newAt w8 28 [.int .u32 (W M.k0), .int .u32 (W M.k1), .int .u32 (W M.k2), .int .u32 (W M.k3), .int .u32 (W M.k4), .int .u32 (W M.k5), .int .u32 (W M.k6), .int .u32 (W M.k7)] (n := w8.heap.size) rfl
  clear hb7' hb8 hv7 hm7
  go_wp2_with fail
  refine (told16 _).mono ?_
  rintro e w9 ⟨rfl, hb9⟩
  have hfin := hb8'.trans (hb9.mono hb8'.size)
  have v8 := (hv8.below hb9 hv8.lt).eight
  have m8 := (hm8.below hb9 hm8.lt).eight
  have p8 := (hp8.below hb9 hp8.lt).eight
  clear hv8 hm8 hp8 hb8' hb9
  go_wp2_with fail
  go_ret
  exact ⟨ret_boolB (by simp), hfin⟩
set_option maxRecDepth 20000 in
set_option maxHeartbeats 8000000 in
theorem kbd_0l (n m : Int) (c : Nat) (w : World) (hn : (IntKind.u64.wrap n).tmod 5 = (c : Int)) (hm : (IntKind.u64.wrap m).tmod 6 = 0) (hc : 3 ≤ c ∧ c < 5) :
    Calls Try.prog 14 #[.int .i64 n, .int .i64 m] w fun e w' => e = .returned (.bool true) ∧ Below w.heap.size w w' := by
  have hc3 := wrap64_small c (by omega)
  obtain ⟨l, hl⟩ : ∃ l : List UInt8, Hid (l = List.replicate (98 + c) 0) := ⟨_, rfl⟩
  have hln : l.length = 98 + c := by rw [hl.out, List.length_replicate]
  obtain ⟨M, hM⟩ : ∃ M, Hid (M = keyL [] SO 1) := ⟨_, rfl⟩
  go_enter Try.func14, Try.ntmps14
  have hor : bits .or .u32 0 0 = 0 := by decide
  have hb0 : Below w.heap.size w (w.alloc (.cells #[.int .i64 (-1), .int .i64 0, .int .i64 1, .int .i64 2, .int .i64 1000, .int .i64 1001] 3)) := (Below.refl _ _).alloc (Nat.le_refl _) _
  go_wp2_with (at_make; refine wpList_mk (base := 0) (n := 98 + c) rfl (.tmp 26) (.tmp 26) rfl (by rfl) (by rfl) (by omega) (Nat.zero_le _) ?_; intro g w5 ho5 hg5 hgr5; have hB5 := ho5.bts; rw [← hl.out] at hB5; have hst5 : (convert 24 9 (.slice (some ⟨g, 0, none⟩) (98 + c) (98 + c))).run Try.prog w5 = .ok (.string (mkStr l)) w5 := (by have h := run_str hB5 (98 + c); rw [hln] at h; exact h); have hb5 := hb0.grown hgr5 (by simp) (by simp); clear ho5 hB5 hgr5 hg5)
  refine (ky_bad l _ (by omega) _).mono ?_
  rintro e w6 ⟨rfl, hb6⟩
  have hb6' := (hb5.trans (hb6.mono hb5.size)).alloc (by have := hb5.size; have := hb6.size; omega) (.cells #[.int .u32 0, .int .u32 0, .int .u32 0, .int .u32 0, .int .u32 0, .int .u32 0, .int .u32 0, .int .u32 0] 28)
  have hv6 := Holds.newAt w6 28 [.int .u32 0, .int .u32 0, .int .u32 0, .int .u32 0, .int .u32 0, .int .u32 0, .int .u32 0, .int .u32 0] (n := w6.heap.size) rfl
  clear hb0 hb5 hb6 hst5
  go_wp2_with fail
  refine (ky_one M hM _).mono ?_
  rintro e w7 ⟨rfl, hb7⟩
  have hb7' := (hb6'.trans (hb7.mono hb6'.size)).alloc (by have := hb6'.size; have := hb7.size; omega) (.cells #[.int .u32 (W M.k0), .int .u32 (W M.k1), .int .u32 (W M.k2), .int .u32 (W M.k3), .int .u32 (W M.k4), .int .u32 (W M.k5), .int .u32 (W M.k6), .int .u32 (W M.k7)] 28)
  have hv7 := (hv6.below hb7 hv6.lt).alloc (.cells #[.int .u32 (W M.k0), .int .u32 (W M.k1), .int .u32 (W M.k2), .int .u32 (W M.k3), .int .u32 (W M.k4), .int .u32 (W M.k5), .int .u32 (W M.k6), .int .u32 (W M.k7)] 28)
  have hm7 := Holds.newAt w7 28 [.int .u32 (W M.k0), .int .u32 (W M.k1), .int .u32 (W M.k2), .int .u32 (W M.k3), .int .u32 (W M.k4), .int .u32 (W M.k5), .int .u32 (W M.k6), .int .u32 (W M.k7)] (n := w7.heap.size) rfl
  clear hb6' hb7 hv6
  go_wp2_with fail
  refine (ky_one M hM _).mono ?_
  rintro e w8 ⟨rfl, hb8⟩
  have hb8' := (hb7'.trans (hb8.mono hb7'.size)).alloc (by have := hb7'.size; have := hb8.size; omega) (.cells #[.int .u32 (W M.k0), .int .u32 (W M.k1), .int .u32 (W M.k2), .int .u32 (W M.k3), .int .u32 (W M.k4), .int .u32 (W M.k5), .int .u32 (W M.k6), .int .u32 (W M.k7)] 28)
  have hv8 := (hv7.below hb8 hv7.lt).alloc (.cells #[.int .u32 (W M.k0), .int .u32 (W M.k1), .int .u32 (W M.k2), .int .u32 (W M.k3), .int .u32 (W M.k4), .int .u32 (W M.k5), .int .u32 (W M.k6), .int .u32 (W M.k7)] 28)
  have hm8 := (hm7.below hb8 hm7.lt).alloc (.cells #[.int .u32 (W M.k0), .int .u32 (W M.k1), .int .u32 (W M.k2), .int .u32 (W M.k3), .int .u32 (W M.k4), .int .u32 (W M.k5), .int .u32 (W M.k6), .int .u32 (W M.k7)] 28)
  have hp8 := Holds.newAt w8 28 [.int .u32 (W M.k0), .int .u32 (W M.k1), .int .u32 (W M.k2), .int .u32 (W M.k3), .int .u32 (W M.k4), .int .u32 (W M.k5), .int .u32 (W M.k6), .int .u32 (W M.k7)] (n := w8.heap.size) rfl
  clear hb7' hb8 hv7 hm7
  go_wp2_with fail
  refine (told16 _).mono ?_
  rintro e w9 ⟨rfl, hb9⟩
  have hfin := hb8'.trans (hb9.mono hb8'.size)
  have v8 := (hv8.below hb9 hv8.lt).eight
  have m8 := (hm8.below hb9 hm8.lt).eight
  have p8 := (hp8.below hb9 hp8.lt).eight
  clear hv8 hm8 hp8 hb8' hb9
  go_wp2_with fail
  go_ret
  exact ⟨ret_boolB (by simp), hfin⟩
set_option maxRecDepth 20000 in
set_option maxHeartbeats 8000000 in
theorem kbd_1s (n m : Int) (c : Nat) (w : World) (hn : (IntKind.u64.wrap n).tmod 5 = (c : Int)) (hm : (IntKind.u64.wrap m).tmod 6 = 1) (hc : c < 3) :
    Calls Try.prog 14 #[.int .i64 n, .int .i64 m] w fun e w' => e = .returned (.bool true) ∧ Below w.heap.size w w' := by
  have hc3 := wrap64_small c (by omega)
  obtain ⟨l, hl⟩ : ∃ l : List UInt8, Hid (l = List.replicate (98 + c) 0) := ⟨_, rfl⟩
  have hln : l.length = 98 + c := by rw [hl.out, List.length_replicate]
  obtain ⟨M, hM⟩ : ∃ M, Hid (M = keyL [] SO 1) := ⟨_, rfl⟩
  go_enter Try.func14, Try.ntmps14
  have hor : bits .or .u32 0 0 = 0 := by decide
  have hb0 : Below w.heap.size w (w.alloc (.cells #[.int .i64 (-1), .int .i64 0, .int .i64 1, .int .i64 2, .int .i64 1000, .int .i64 1001] 3)) := (Below.refl _ _).alloc (Nat.le_refl _) _
  go_wp2_with (at_make; refine wpList_mk (base := 0) (n := 98 + c) rfl (.tmp 26) (.tmp 26) rfl (by rfl) (by rfl) (by omega) (Nat.zero_le _) ?_; intro g w5 ho5 hg5 hgr5; have hB5 := ho5.bts; rw [← hl.out] at hB5; have hst5 : (convert 24 9 (.slice (some ⟨g, 0, none⟩) (98 + c) (98 + c))).run Try.prog w5 = .ok (.string (mkStr l)) w5 := (by have h := run_str hB5 (98 + c); rw [hln] at h; exact h); have hb5 := hb0.grown hgr5 (by simp) (by simp); clear ho5 hB5 hgr5 hg5)
  refine (ky_bad l _ (by omega) _).mono ?_
  rintro e w6 ⟨rfl, hb6⟩
  have hb6' := (hb5.trans (hb6.mono hb5.size)).alloc (by have := hb5.size; have := hb6.size; omega) (.cells #[.int .u32 0, .int .u32 0, .int .u32 0, .int .u32 0, .int .u32 0, .int .u32 0, .int .u32 0, .int .u32 0] 28)
  have hv6 := Holds.newAt w6 28 [.int .u32 0, .int .u32 0, .int .u32 0, .int .u32 0, .int .u32 0, .int .u32 0, .int .u32 0, .int .u32 0] (n := w6.heap.size) rfl
  clear hb0 hb5 hb6 hst5
  go_wp2_with fail
  refine (ky_one M hM _).mono ?_
  rintro e w7 ⟨rfl, hb7⟩
  have hb7' := (hb6'.trans (hb7.mono hb6'.size)).alloc (by have := hb6'.size; have := hb7.size; omega) (.cells #[.int .u32 (W M.k0), .int .u32 (W M.k1), .int .u32 (W M.k2), .int .u32 (W M.k3), .int .u32 (W M.k4), .int .u32 (W M.k5), .int .u32 (W M.k6), .int .u32 (W M.k7)] 28)
  have hv7 := (hv6.below hb7 hv6.lt).alloc (.cells #[.int .u32 (W M.k0), .int .u32 (W M.k1), .int .u32 (W M.k2), .int .u32 (W M.k3), .int .u32 (W M.k4), .int .u32 (W M.k5), .int .u32 (W M.k6), .int .u32 (W M.k7)] 28)
  have hm7 := Holds.newAt w7 28 [.int .u32 (W M.k0), .int .u32 (W M.k1), .int .u32 (W M.k2), .int .u32 (W M.k3), .int .u32 (W M.k4), .int .u32 (W M.k5), .int .u32 (W M.k6), .int .u32 (W M.k7)] (n := w7.heap.size) rfl
  clear hb6' hb7 hv6
  go_wp2_with fail
  refine (ky_one M hM _).mono ?_
  rintro e w8 ⟨rfl, hb8⟩
  have hb8' := (hb7'.trans (hb8.mono hb7'.size)).alloc (by have := hb7'.size; have := hb8.size; omega) (.cells #[.int .u32 (W M.k0), .int .u32 (W M.k1), .int .u32 (W M.k2), .int .u32 (W M.k3), .int .u32 (W M.k4), .int .u32 (W M.k5), .int .u32 (W M.k6), .int .u32 (W M.k7)] 28)
  have hv8 := (hv7.below hb8 hv7.lt).alloc (.cells #[.int .u32 (W M.k0), .int .u32 (W M.k1), .int .u32 (W M.k2), .int .u32 (W M.k3), .int .u32 (W M.k4), .int .u32 (W M.k5), .int .u32 (W M.k6), .int .u32 (W M.k7)] 28)
  have hm8 := (hm7.below hb8 hm7.lt).alloc (.cells #[.int .u32 (W M.k0), .int .u32 (W M.k1), .int .u32 (W M.k2), .int .u32 (W M.k3), .int .u32 (W M.k4), .int .u32 (W M.k5), .int .u32 (W M.k6), .int .u32 (W M.k7)] 28)
  have hp8 := Holds.newAt w8 28 [.int .u32 (W M.k0), .int .u32 (W M.k1), .int .u32 (W M.k2), .int .u32 (W M.k3), .int .u32 (W M.k4), .int .u32 (W M.k5), .int .u32 (W M.k6), .int .u32 (W M.k7)] (n := w8.heap.size) rfl
  clear hb7' hb8 hv7 hm7
  go_wp2_with fail
  refine (told16 _).mono ?_
  rintro e w9 ⟨rfl, hb9⟩
  have hfin := hb8'.trans (hb9.mono hb8'.size)
  have v8 := (hv8.below hb9 hv8.lt).eight
  have m8 := (hm8.below hb9 hm8.lt).eight
  have p8 := (hp8.below hb9 hp8.lt).eight
  clear hv8 hm8 hp8 hb8' hb9
  go_wp2_with fail
  go_ret
  exact ⟨ret_boolB (by simp), hfin⟩
set_option maxRecDepth 20000 in
set_option maxHeartbeats 8000000 in
theorem kbd_1l (n m : Int) (c : Nat) (w : World) (hn : (IntKind.u64.wrap n).tmod 5 = (c : Int)) (hm : (IntKind.u64.wrap m).tmod 6 = 1) (hc : 3 ≤ c ∧ c < 5) :
    Calls Try.prog 14 #[.int .i64 n, .int .i64 m] w fun e w' => e = .returned (.bool true) ∧ Below w.heap.size w w' := by
  have hc3 := wrap64_small c (by omega)
  obtain ⟨l, hl⟩ : ∃ l : List UInt8, Hid (l = List.replicate (98 + c) 0) := ⟨_, rfl⟩
  have hln : l.length = 98 + c := by rw [hl.out, List.length_replicate]
  obtain ⟨M, hM⟩ : ∃ M, Hid (M = keyL [] SO 1) := ⟨_, rfl⟩
  go_enter Try.func14, Try.ntmps14
  have hor : bits .or .u32 0 0 = 0 := by decide
  have hb0 : Below w.heap.size w (w.alloc (.cells #[.int .i64 (-1), .int .i64 0, .int .i64 1, .int .i64 2, .int .i64 1000, .int .i64 1001] 3)) := (Below.refl _ _).alloc (Nat.le_refl _) _
  go_wp2_with (at_make; refine wpList_mk (base := 0) (n := 98 + c) rfl (.tmp 26) (.tmp 26) rfl (by rfl) (by rfl) (by omega) (Nat.zero_le _) ?_; intro g w5 ho5 hg5 hgr5; have hB5 := ho5.bts; rw [← hl.out] at hB5; have hst5 : (convert 24 9 (.slice (some ⟨g, 0, none⟩) (98 + c) (98 + c))).run Try.prog w5 = .ok (.string (mkStr l)) w5 := (by have h := run_str hB5 (98 + c); rw [hln] at h; exact h); have hb5 := hb0.grown hgr5 (by simp) (by simp); clear ho5 hB5 hgr5 hg5)
  refine (ky_bad l _ (by omega) _).mono ?_
  rintro e w6 ⟨rfl, hb6⟩
  have hb6' := (hb5.trans (hb6.mono hb5.size)).alloc (by have := hb5.size; have := hb6.size; omega) (.cells #[.int .u32 0, .int .u32 0, .int .u32 0, .int .u32 0, .int .u32 0, .int .u32 0, .int .u32 0, .int .u32 0] 28)
  have hv6 := Holds.newAt w6 28 [.int .u32 0, .int .u32 0, .int .u32 0, .int .u32 0, .int .u32 0, .int .u32 0, .int .u32 0, .int .u32 0] (n := w6.heap.size) rfl
  clear hb0 hb5 hb6 hst5
  go_wp2_with fail
  refine (ky_one M hM _).mono ?_
  rintro e w7 ⟨rfl, hb7⟩
  have hb7' := (hb6'.trans (hb7.mono hb6'.size)).alloc (by have := hb6'.size; have := hb7.size; omega) (.cells #[.int .u32 (W M.k0), .int .u32 (W M.k1), .int .u32 (W M.k2), .int .u32 (W M.k3), .int .u32 (W M.k4), .int .u32 (W M.k5), .int .u32 (W M.k6), .int .u32 (W M.k7)] 28)
  have hv7 := (hv6.below hb7 hv6.lt).alloc (.cells #[.int .u32 (W M.k0), .int .u32 (W M.k1), .int .u32 (W M.k2), .int .u32 (W M.k3), .int .u32 (W M.k4), .int .u32 (W M.k5), .int .u32 (W M.k6), .int .u32 (W M.k7)] 28)
  have hm7 := Holds.newAt w7 28 [.int .u32 (W M.k0), .int .u32 (W M.k1), .int .u32 (W M.k2), .int .u32 (W M.k3), .int .u32 (W M.k4), .int .u32 (W M.k5), .int .u32 (W M.k6), .int .u32 (W M.k7)] (n := w7.heap.size) rfl
  clear hb6' hb7 hv6
  go_wp2_with fail
  refine (ky_one M hM _).mono ?_
  rintro e w8 ⟨rfl, hb8⟩
  have hb8' := (hb7'.trans (hb8.mono hb7'.size)).alloc (by have := hb7'.size; have := hb8.size; omega) (.cells #[.int .u32 (W M.k0), .int .u32 (W M.k1), .int .u32 (W M.k2), .int .u32 (W M.k3), .int .u32 (W M.k4), .int .u32 (W M.k5), .int .u32 (W M.k6), .int .u32 (W M.k7)] 28)
  have hv8 := (hv7.below hb8 hv7.lt).alloc (.cells #[.int .u32 (W M.k0), .int .u32 (W M.k1), .int .u32 (W M.k2), .int .u32 (W M.k3), .int .u32 (W M.k4), .int .u32 (W M.k5), .int .u32 (W M.k6), .int .u32 (W M.k7)] 28)
  have hm8 := (hm7.below hb8 hm7.lt).alloc (.cells #[.int .u32 (W M.k0), .int .u32 (W M.k1), .int .u32 (W M.k2), .int .u32 (W M.k3), .int .u32 (W M.k4), .int .u32 (W M.k5), .int .u32 (W M.k6), .int .u32 (W M.k7)] 28)
  have hp8 := Holds.newAt w8 28 [.int .u32 (W M.k0), .int .u32 (W M.k1), .int .u32 (W M.k2), .int .u32 (W M.k3), .int .u32 (W M.k4), .int .u32 (W M.k5), .int .u32 (W M.k6), .int .u32 (W M.k7)] (n := w8.heap.size) rfl
  clear hb7' hb8 hv7 hm7
  go_wp2_with fail
  refine (told16 _).mono ?_
  rintro e w9 ⟨rfl, hb9⟩
  have hfin := hb8'.trans (hb9.mono hb8'.size)
  have v8 := (hv8.below hb9 hv8.lt).eight
  have m8 := (hm8.below hb9 hm8.lt).eight
  have p8 := (hp8.below hb9 hp8.lt).eight
  clear hv8 hm8 hp8 hb8' hb9
  go_wp2_with fail
  go_ret
  exact ⟨ret_boolB (by simp), hfin⟩
set_option maxRecDepth 20000 in
set_option maxHeartbeats 8000000 in
theorem kbd_2s (n m : Int) (c : Nat) (w : World) (hn : (IntKind.u64.wrap n).tmod 5 = (c : Int)) (hm : (IntKind.u64.wrap m).tmod 6 = 2) (hc : c < 3) :
    Calls Try.prog 14 #[.int .i64 n, .int .i64 m] w fun e w' => e = .returned (.bool true) ∧ Below w.heap.size w w' := by
  have hc3 := wrap64_small c (by omega)
  obtain ⟨l, hl⟩ : ∃ l : List UInt8, Hid (l = List.replicate (98 + c) 0) := ⟨_, rfl⟩
  have hln : l.length = 98 + c := by rw [hl.out, List.length_replicate]
  obtain ⟨M, hM⟩ : ∃ M, Hid (M = keyL [] SO 1) := ⟨_, rfl⟩
  obtain ⟨K, hK⟩ : ∃ K, Hid (K = keyL l SZ 1) := ⟨_, rfl⟩
  go_enter Try.func14, Try.ntmps14
  have hor : bits .or .u32 0 0 = 0 := by decide
  have hb0 : Below w.heap.size w (w.alloc (.cells #[.int .i64 (-1), .int .i64 0, .int .i64 1, .int .i64 2, .int .i64 1000, .int .i64 1001] 3)) := (Below.refl _ _).alloc (Nat.le_refl _) _
  go_wp2_with (at_make; refine wpList_mk (base := 0) (n := 98 + c) rfl (.tmp 26) (.tmp 26) rfl (by rfl) (by rfl) (by omega) (Nat.zero_le _) ?_; intro g w5 ho5 hg5 hgr5; have hB5 := ho5.bts; rw [← hl.out] at hB5; have hst5 : (convert 24 9 (.slice (some ⟨g, 0, none⟩) (98 + c) (98 + c))).run Try.prog w5 = .ok (.string (mkStr l)) w5 := (by have h := run_str hB5 (98 + c); rw [hln] at h; exact h); have hb5 := hb0.grown hgr5 (by simp) (by simp); clear ho5 hB5 hgr5 hg5)
  refine (ky_good l 1 _ rfl K hK (by omega) (by omega) (by omega) _).mono ?_
  rintro e w6 ⟨rfl, hb6⟩
  have hb6' := (hb5.trans (hb6.mono hb5.size)).alloc (by have := hb5.size; have := hb6.size; omega) (.cells #[.int .u32 (W K.k0), .int .u32 (W K.k1), .int .u32 (W K.k2), .int .u32 (W K.k3), .int .u32 (W K.k4), .int .u32 (W K.k5), .int .u32 (W K.k6), .int .u32 (W K.k7)] 28)
  have hv6 := Holds.newAt w6 28 [.int .u32 (W K.k0), .int .u32 (W K.k1), .int .u32 (W K.k2), .int .u32 (W K.k3), .int .u32 (W K.k4), .int .u32 (W K.k5), .int .u32 (W K.k6), .int .u32 (W K.k7)] (n := w6.heap.size) rfl
  clear hb0 hb5 hb6 hst5
  go_wp2_with fail
  refine (ky_one M hM _).mono ?_
  rintro e w7 ⟨rfl, hb7⟩
  have hb7' := (hb6'.trans (hb7.mono hb6'.size)).alloc (by have := hb6'.size; have := hb7.size; omega) (.cells #[.int .u32 (W M.k0), .int .u32 (W M.k1), .int .u32 (W M.k2), .int .u32 (W M.k3), .int .u32 (W M.k4), .int .u32 (W M.k5), .int .u32 (W M.k6), .int .u32 (W M.k7)] 28)
  have hv7 := (hv6.below hb7 hv6.lt).alloc (.cells #[.int .u32 (W M.k0), .int .u32 (W M.k1), .int .u32 (W M.k2), .int .u32 (W M.k3), .int .u32 (W M.k4), .int .u32 (W M.k5), .int .u32 (W M.k6), .int .u32 (W M.k7)] 28)
  have hm7 := Holds.newAt w7 28 [.int .u32 (W M.k0), .int .u32 (W M.k1), .int .u32 (W M.k2), .int .u32 (W M.k3), .int .u32 (W M.k4), .int .u32 (W M.k5), .int .u32 (W M.k6), .int .u32 (W M.k7)] (n := w7.heap.size) rfl
  clear hb6' hb7 hv6
  go_wp2_with fail
  refine (ky_one M hM _).mono ?_
  rintro e w8 ⟨rfl, hb8⟩
  have hb8' := (hb7'.trans (hb8.mono hb7'.size)).alloc (by have := hb7'.size; have := hb8.size; omega) (.cells #[.int .u32 (W M.k0), .int .u32 (W M.k1), .int .u32 (W M.k2), .int .u32 (W M.k3), .int .u32 (W M.k4), .int .u32 (W M.k5), .int .u32 (W M.k6), .int .u32 (W M.k7)] 28)
  have hv8 := (hv7.below hb8 hv7.lt).alloc (.cells #[.int .u32 (W M.k0), .int .u32 (W M.k1), .int .u32 (W M.k2), .int .u32 (W M.k3), .int .u32 (W M.k4), .int .u32 (W M.k5), .int .u32 (W M.k6), .int .u32 (W M.k7)] 28)
  have hm8 := (hm7.below hb8 hm7.lt).alloc (.cells #[.int .u32 (W M.k0), .int .u32 (W M.k1), .int .u32 (W M.k2), .int .u32 (W M.k3), .int .u32 (W M.k4), .int .u32 (W M.k5), .int .u32 (W M.k6), .int .u32 (W M.k7)] 28)
  have hp8 := Holds.newAt w8 28 [.int .u32 (W M.k0), .int .u32 (W M.k1), .int .u32 (W M.k2), .int .u32 (W M.k3), .int .u32 (W M.k4), .int .u32 (W M.k5), .int .u32 (W M.k6), .int .u32 (W M.k7)] (n := w8.heap.size) rfl
  clear hb7' hb8 hv7 hm7
  go_wp2_with fail
  refine (told16 _).mono ?_
  rintro e w9 ⟨rfl, hb9⟩
  have hfin := hb8'.trans (hb9.mono hb8'.size)
  have v8 := (hv8.below hb9 hv8.lt).eight
  have m8 := (hm8.below hb9 hm8.lt).eight
  have p8 := (hp8.below hb9 hp8.lt).eight
  clear hv8 hm8 hp8 hb8' hb9
  go_wp2_with fail
  go_ret
  exact ⟨ret_boolB (by simp), hfin⟩
set_option maxRecDepth 20000 in
set_option maxHeartbeats 8000000 in
theorem kbd_2l (n m : Int) (c : Nat) (w : World) (hn : (IntKind.u64.wrap n).tmod 5 = (c : Int)) (hm : (IntKind.u64.wrap m).tmod 6 = 2) (hc : 3 ≤ c ∧ c < 5) :
    Calls Try.prog 14 #[.int .i64 n, .int .i64 m] w fun e w' => e = .returned (.bool true) ∧ Below w.heap.size w w' := by
  have hc3 := wrap64_small c (by omega)
  obtain ⟨l, hl⟩ : ∃ l : List UInt8, Hid (l = List.replicate (98 + c) 0) := ⟨_, rfl⟩
  have hln : l.length = 98 + c := by rw [hl.out, List.length_replicate]
  obtain ⟨M, hM⟩ : ∃ M, Hid (M = keyL [] SO 1) := ⟨_, rfl⟩
  go_enter Try.func14, Try.ntmps14
  have hor : bits .or .u32 0 0 = 0 := by decide
  have hb0 : Below w.heap.size w (w.alloc (.cells #[.int .i64 (-1), .int .i64 0, .int .i64 1, .int .i64 2, .int .i64 1000, .int .i64 1001] 3)) := (Below.refl _ _).alloc (Nat.le_refl _) _
  go_wp2_with (at_make; refine wpList_mk (base := 0) (n := 98 + c) rfl (.tmp 26) (.tmp 26) rfl (by rfl) (by rfl) (by omega) (Nat.zero_le _) ?_; intro g w5 ho5 hg5 hgr5; have hB5 := ho5.bts; rw [← hl.out] at hB5; have hst5 : (convert 24 9 (.slice (some ⟨g, 0, none⟩) (98 + c) (98 + c))).run Try.prog w5 = .ok (.string (mkStr l)) w5 := (by have h := run_str hB5 (98 + c); rw [hln] at h; exact h); have hb5 := hb0.grown hgr5 (by simp) (by simp); clear ho5 hB5 hgr5 hg5)
  refine (ky_bad l _ (by omega) _).mono ?_
  rintro e w6 ⟨rfl, hb6⟩
  have hb6' := (hb5.trans (hb6.mono hb5.size)).alloc (by have := hb5.size; have := hb6.size; omega) (.cells #[.int .u32 0, .int .u32 0, .int .u32 0, .int .u32 0, .int .u32 0, .int .u32 0, .int .u32 0, .int .u32 0] 28)
  have hv6 := Holds.newAt w6 28 [.int .u32 0, .int .u32 0, .int .u32 0, .int .u32 0, .int .u32 0, .int .u32 0, .int .u32 0, .int .u32 0] (n := w6.heap.size) rfl
  clear hb0 hb5 hb6 hst5
  go_wp2_with fail
  refine (ky_one M hM _).mono ?_
  rintro e w7 ⟨rfl, hb7⟩
  have hb7' := (hb6'.trans (hb7.mono hb6'.size)).alloc (by have := hb6'.size; have := hb7.size; omega) (.cells #[.int .u32 (W M.k0), .int .u32 (W M.k1), .int .u32 (W M.k2), .int .u32 (W M.k3), .int .u32 (W M.k4), .int .u32 (W M.k5), .int .u32 (W M.k6), .int .u32 (W M.k7)] 28)
  have hv7 := (hv6.below hb7 hv6.lt).alloc (.cells #[.int .u32 (W M.k0), .int .u32 (W M.k1), .int .u32 (W M.k2), .int .u32 (W M.k3), .int .u32 (W M.k4), .int .u32 (W M.k5), .int .u32 (W M.k6), .int .u32 (W M.k7)] 28)
  have hm7 := Holds.newAt w7 28 [.int .u32 (W M.k0), .int .u32 (W M.k1), .int .u32 (W M.k2), .int .u32 (W M.k3), .int .u32 (W M.k4), .int .u32 (W M.k5), .int .u32 (W M.k6), .int .u32 (W M.k7)] (n := w7.heap.size) rfl
  clear hb6' hb7 hv6
  go_wp2_with fail
  refine (ky_one M hM _).mono ?_
  rintro e w8 ⟨rfl, hb8⟩
  have hb8' := (hb7'.trans (hb8.mono hb7'.size)).alloc (by have := hb7'.size; have := hb8.size; omega) (.cells #[.int .u32 (W M.k0), .int .u32 (W M.k1), .int .u32 (W M.k2), .int .u32 (W M.k3), .int .u32 (W M.k4), .int .u32 (W M.k5), .int .u32 (W M.k6), .int .u32 (W M.k7)] 28)
  have hv8 := (hv7.below hb8 hv7.lt).alloc (.cells #[.int .u32 (W M.k0), .int .u32 (W M.k1), .int .u32 (W M.k2), .int .u32 (W M.k3), .int .u32 (W M.k4), .int .u32 (W M.k5), .int .u32 (W M.k6), .int .u32 (W M.k7)] 28)
  have hm8 := (hm7.below hb8 hm7.lt).alloc (.cells #[.int .u32 (W M.k0), .int .u32 (W M.k1), .int .u32 (W M.k2), .int .u32 (W M.k3), .int .u32 (W M.k4), .int .u32 (W M.k5), .int .u32 (W M.k6), .int .u32 (W M.k7)] 28)
  have hp8 := Holds.newAt w8 28 [.int .u32 (W M.k0), .int .u32 (W M.k1), .int .u32 (W M.k2), .int .u32 (W M.k3), .int .u32 (W M.k4), .int .u32 (W M.k5), .int .u32 (W M.k6), .int .u32 (W M.k7)] (n := w8.heap.size) rfl
  clear hb7' hb8 hv7 hm7
  go_wp2_with fail
  refine (told16 _).mono ?_
  rintro e w9 ⟨rfl, hb9⟩
  have hfin := hb8'.trans (hb9.mono hb8'.size)
  have v8 := (hv8.below hb9 hv8.lt).eight
  have m8 := (hm8.below hb9 hm8.lt).eight
  have p8 := (hp8.below hb9 hp8.lt).eight
  clear hv8 hm8 hp8 hb8' hb9
  go_wp2_with fail
  go_ret
  exact ⟨ret_boolB (by simp), hfin⟩
set_option maxRecDepth 20000 in
set_option maxHeartbeats 8000000 in
theorem kbd_3s (n m : Int) (c : Nat) (w : World) (hn : (IntKind.u64.wrap n).tmod 5 = (c : Int)) (hm : (IntKind.u64.wrap m).tmod 6 = 3) (hc : c < 3) :
    Calls Try.prog 14 #[.int .i64 n, .int .i64 m] w fun e w' => e = .returned (.bool true) ∧ Below w.heap.size w w' := by
  have hc3 := wrap64_small c (by omega)
  obtain ⟨l, hl⟩ : ∃ l : List UInt8, Hid (l = List.replicate (98 + c) 0) := ⟨_, rfl⟩
  have hln : l.length = 98 + c := by rw [hl.out, List.length_replicate]
  obtain ⟨M, hM⟩ : ∃ M, Hid (M = keyL [] SO 1) := ⟨_, rfl⟩
  obtain ⟨K, hK⟩ : ∃ K, Hid (K = keyL l SZ 2) := ⟨_, rfl⟩
  go_enter Try.func14, Try.ntmps14
  have hor : bits .or .u32 0 0 = 0 := by decide
  have hb0 : Below w.heap.size w (w.alloc (.cells #[.int .i64 (-1), .int .i64 0, .int .i64 1, .int .i64 2, .int .i64 1000, .int .i64 1001] 3)) := (Below.refl _ _).alloc (Nat.le_refl _) _
  go_wp2_with (at_make; refine wpList_mk (base := 0) (n := 98 + c) rfl (.tmp 26) (.tmp 26) rfl (by rfl) (by rfl) (by omega) (Nat.zero_le _) ?_; intro g w5 ho5 hg5 hgr5; have hB5 := ho5.bts; rw [← hl.out] at hB5; have hst5 : (convert 24 9 (.slice (some ⟨g, 0, none⟩) (98 + c) (98 + c))).run Try.prog w5 = .ok (.string (mkStr l)) w5 := (by have h := run_str hB5 (98 + c); rw [hln] at h; exact h); have hb5 := hb0.grown hgr5 (by simp) (by simp); clear ho5 hB5 hgr5 hg5)
  refine (ky_good l 2 _ rfl K hK (by omega) (by omega) (by omega) _).mono ?_
  rintro e w6 ⟨rfl, hb6⟩
  have hb6' := (hb5.trans (hb6.mono hb5.size)).alloc (by have := hb5.size; have := hb6.size; omega) (.cells #[.int .u32 (W K.k0), .int .u32 (W K.k1), .int .u32 (W K.k2), .int .u32 (W K.k3), .int .u32 (W K.k4), .int .u32 (W K.k5), .int .u32 (W K.k6), .int .u32 (W K.k7)] 28)
  have hv6 := Holds.newAt w6 28 [.int .u32 (W K.k0), .int .u32 (W K.k1), .int .u32 (W K.k2), .int .u32 (W K.k3), .int .u32 (W K.k4), .int .u32 (W K.k5), .int .u32 (W K.k6), .int .u32 (W K.k7)] (n := w6.heap.size) rfl
  clear hb0 hb5 hb6 hst5
  go_wp2_with fail
  refine (ky_one M hM _).mono ?_
  rintro e w7 ⟨rfl, hb7⟩
  have hb7' := (hb6'.trans (hb7.mono hb6'.size)).alloc (by have := hb6'.size; have := hb7.size; omega) (.cells #[.int .u32 (W M.k0), .int .u32 (W M.k1), .int .u32 (W M.k2), .int .u32 (W M.k3), .int .u32 (W M.k4), .int .u32 (W M.k5), .int .u32 (W M.k6), .int .u32 (W M.k7)] 28)
  have hv7 := (hv6.below hb7 hv6.lt).alloc (.cells #[.int .u32 (W M.k0), .int .u32 (W M.k1), .int .u32 (W M.k2), .int .u32 (W M.k3), .int .u32 (W M.k4), .int .u32 (W M.k5), .int .u32 (W M.k6), .int .u32 (W M.k7)] 28)
  have hm7 := Holds.newAt w7 28 [.int .u32 (W M.k0), .int .u32 (W M.k1), .int .u32 (W M.k2), .int .u32 (W M.k3), .int .u32 (W M.k4), .int .u32 (W M.k5), .int .u32 (W M.k6), .int .u32 (W M.k7)] (n := w7.heap.size) rfl
  clear hb6' hb7 hv6
  go_wp2_with fail
  refine (ky_one M hM _).mono ?_
  rintro e w8 ⟨rfl, hb8⟩
  have hb8' := (hb7'.trans (hb8.mono hb7'.size)).alloc (by have := hb7'.size; have := hb8.size; omega) (.cells #[.int .u32 (W M.k0), .int .u32 (W M.k1), .int .u32 (W M.k2), .int .u32 (W M.k3), .int .u32 (W M.k4), .int .u32 (W M.k5), .int .u32 (W M.k6), .int .u32 (W M.k7)] 28)
  have hv8 := (hv7.below hb8 hv7.lt).alloc (.cells #[.int .u32 (W M.k0), .int .u32 (W M.k1), .int .u32 (W M.k2), .int .u32 (W M.k3), .int .u32 (W M.k4), .int .u32 (W M.k5), .int .u32 (W M.k6), .int .u32 (W M.k7)] 28)
  have hm8 := (hm7.below hb8 hm7.lt).alloc (.cells #[.int .u32 (W M.k0), .int .u32 (W M.k1), .int .u32 (W M.k2), .int .u32 (W M.k3), .int .u32 (W M.k4), .int .u32 (W M.k5), .int .u32 (W M.k6), .int .u32 (W M.k7)] 28)
  have hp8 := Holds.newAt w8 28 [.int .u32 (W M.k0), .int .u32 (W M.k1), .int .u32 (W M.k2), .int .u32 (W M.k3), .int .u32 (W M.k4), .int .u32 (W M.k5), .int .u32 (W M.k6), .int .u32 (W M.k7)] (n := w8.heap.size) rfl
  clear hb7' hb8 hv7 hm7
  go_wp2_with fail
  refine (told16 _).mono ?_
  rintro e w9 ⟨rfl, hb9⟩
  have hfin := hb8'.trans (hb9.mono hb8'.size)
  have v8 := (hv8.below hb9 hv8.lt).eight
  have m8 := (hm8.below hb9 hm8.lt).eight
  have p8 := (hp8.below hb9 hp8.lt).eight
  clear hv8 hm8 hp8 hb8' hb9
  go_wp2_with fail
  go_ret
  exact ⟨ret_boolB (by simp), hfin⟩
set_option maxRecDepth 20000 in
set_option maxHeartbeats 8000000 in
theorem kbd_3l (n m : Int) (c : Nat) (w : World) (hn : (IntKind.u64.wrap n).tmod 5 = (c : Int)) (hm : (IntKind.u64.wrap m).tmod 6 = 3) (hc : 3 ≤ c ∧ c < 5) :
    Calls Try.prog 14 #[.int .i64 n, .int .i64 m] w fun e w' => e = .returned (.bool true) ∧ Below w.heap.size w w' := by
  have hc3 := wrap64_small c (by omega)
  obtain ⟨l, hl⟩ : ∃ l : List UInt8, Hid (l = List.replicate (98 + c) 0) := ⟨_, rfl⟩
  have hln : l.length = 98 + c := by rw [hl.out, List.length_replicate]
  obtain ⟨M, hM⟩ : ∃ M, Hid (M = keyL [] SO 1) := ⟨_, rfl⟩
  go_enter Try.func14, Try.ntmps14
  have hor : bits .or .u32 0 0 = 0 := by decide
  have hb0 : Below w.heap.size w (w.alloc (.cells #[.int .i64 (-1), .int .i64 0, .int .i64 1, .int .i64 2, .int .i64 1000, .int .i64 1001] 3)) := (Below.refl _ _).alloc (Nat.le_refl _) _
  go_wp2_with (at_make; refine wpList_mk (base := 0) (n := 98 + c) rfl (.tmp 26) (.tmp 26) rfl (by rfl) (by rfl) (by omega) (Nat.zero_le _) ?_; intro g w5 ho5 hg5 hgr5; have hB5 := ho5.bts; rw [← hl.out] at hB5; have hst5 : (convert 24 9 (.slice (some ⟨g, 0, none⟩) (98 + c) (98 + c))).run Try.prog w5 = .ok (.string (mkStr l)) w5 := (by have h := run_str hB5 (98 + c); rw [hln] at h; exact h); have hb5 := hb0.grown hgr5 (by simp) (by simp); clear ho5 hB5 hgr5 hg5)
  refine (ky_bad l _ (by omega) _).mono ?_
  rintro e w6 ⟨rfl, hb6⟩
  have hb6' := (hb5.trans (hb6.mono hb5.size)).alloc (by have := hb5.size; have := hb6.size; omega) (.cells #[.int .u32 0, .int .u32 0, .int .u32 0, .int .u32 0, .int .u32 0, .int .u32 0, .int .u32 0, .int .u32 0] 28)
  have hv6 := Holds.newAt w6 28 [.int .u32 0, .int .u32 0, .int .u32 0, .int .u32 0, .int .u32 0, .int .u32 0, .int .u32 0, .int .u32 0] (n := w6.heap.size) rfl
  clear hb0 hb5 hb6 hst5
  go_wp2_with fail
  refine (ky_one M hM _).mono ?_
  rintro e w7 ⟨rfl, hb7⟩
  have hb7' := (hb6'.trans (hb7.mono hb6'.size)).alloc (by have := hb6'.size; have := hb7.size; omega) (.cells #[.int .u32 (W M.k0), .int .u32 (W M.k1), .int .u32 (W M.k2), .int .u32 (W M.k3), .int .u32 (W M.k4), .int .u32 (W M.k5), .int .u32 (W M.k6), .int .u32 (W M.k7)] 28)
  have hv7 := (hv6.below hb7 hv6.lt).alloc (.cells #[.int .u32 (W M.k0), .int .u32 (W M.k1), .int .u32 (W M.k2), .int .u32 (W M.k3), .int .u32 (W M.k4), .int .u32 (W M.k5), .int .u32 (W M.k6), .int .u32 (W M.k7)] 28)
  have hm7 := Holds.newAt w7 28 [.int .u32 (W M.k0), .int .u32 (W M.k1), .int .u32 (W M.k2), .int .u32 (W M.k3), .int .u32 (W M.k4), .int .u32 (W M.k5), .int .u32 (W M.k6), .int .u32 (W M.k7)] (n := w7.heap.size) rfl
  clear hb6' hb7 hv6
  go_wp2_with fail
  refine (ky_one M hM _).mono ?_
  rintro e w8 ⟨rfl, hb8⟩
  have hb8' := (hb7'.trans (hb8.mono hb7'.size)).alloc (by have := hb7'.size; have := hb8.size; omega) (.cells #[.int .u32 (W M.k0), .int .u32 (W M.k1), .int .u32 (W M.k2), .int .u32 (W M.k3), .int .u32 (W M.k4), .int .u32 (W M.k5), .int .u32 (W M.k6), .int .u32 (W M.k7)] 28)
  have hv8 := (hv7.below hb8 hv7.lt).alloc (.cells #[.int .u32 (W M.k0), .int .u32 (W M.k1), .int .u32 (W M.k2), .int .u32 (W M.k3), .int .u32 (W M.k4), .int .u32 (W M.k5), .int .u32 (W M.k6), .int .u32 (W M.k7)] 28)
  have hm8 := (hm7.below hb8 hm7.lt).alloc (.cells #[.int .u32 (W M.k0), .int .u32 (W M.k1), .int .u32 (W M.k2), .int .u32 (W M.k3), .int .u32 (W M.k4), .int .u32 (W M.k5), .int .u32 (W M.k6), .int .u32 (W M.k7)] 28)
  have hp8 := Holds.newAt w8 28 [.int .u32 (W M.k0), .int .u32 (W M.k1), .int .u32 (W M.k2), .int .u32 (W M.k3), .int .u32 (W M.k4), .int .u32 (W M.k5), .int .u32 (W M.k6), .int .u32 (W M.k7)] (n := w8.heap.size) rfl
  clear hb7' hb8 hv7 hm7
  go_wp2_with fail
  refine (told16 _).mono ?_
  rintro e w9 ⟨rfl, hb9⟩
  have hfin := hb8'.trans (hb9.mono hb8'.size)
  have v8 := (hv8.below hb9 hv8.lt).eight
  have m8 := (hm8.below hb9 hm8.lt).eight
  have p8 := (hp8.below hb9 hp8.lt).eight
  clear hv8 hm8 hp8 hb8' hb9
  go_wp2_with fail
  go_ret
  exact ⟨ret_boolB (by simp), hfin⟩
set_option maxRecDepth 20000 in
set_option maxHeartbeats 8000000 in
theorem kbd_4s (n m : Int) (c : Nat) (w : World) (hn : (IntKind.u64.wrap n).tmod 5 = (c : Int)) (hm : (IntKind.u64.wrap m).tmod 6 = 4) (hc : c < 3) :
    Calls Try.prog 14 #[.int .i64 n, .int .i64 m] w fun e w' => e = .returned (.bool true) ∧ Below w.heap.size w w' := by
  have hc3 := wrap64_small c (by omega)
  obtain ⟨l, hl⟩ : ∃ l : List UInt8, Hid (l = List.replicate (98 + c) 0) := ⟨_, rfl⟩
  have hln : l.length = 98 + c := by rw [hl.out, List.length_replicate]
  obtain ⟨M, hM⟩ : ∃ M, Hid (M = keyL [] SO 1) := ⟨_, rfl⟩
  obtain ⟨K, hK⟩ : ∃ K, Hid (K = keyL l SZ 1000) := ⟨_, rfl⟩
  go_enter Try.func14, Try.ntmps14
  have hor : bits .or .u32 0 0 = 0 := by decide
  have hb0 : Below w.heap.size w (w.alloc (.cells #[.int .i64 (-1), .int .i64 0, .int .i64 1, .int .i64 2, .int .i64 1000, .int .i64 1001] 3)) := (Below.refl _ _).alloc (Nat.le_refl _) _
  go_wp2_with (at_make; refine wpList_mk (base := 0) (n := 98 + c) rfl (.tmp 26) (.tmp 26) rfl (by rfl) (by rfl) (by omega) (Nat.zero_le _) ?_; intro g w5 ho5 hg5 hgr5; have hB5 := ho5.bts; rw [← hl.out] at hB5; have hst5 : (convert 24 9 (.slice (some ⟨g, 0, none⟩) (98 + c) (98 + c))).run Try.prog w5 = .ok (.string (mkStr l)) w5 := (by have h := run_str hB5 (98 + c); rw [hln] at h; exact h); have hb5 := hb0.grown hgr5 (by simp) (by simp); clear ho5 hB5 hgr5 hg5)
  refine (ky_good l 1000 _ rfl K hK (by omega) (by omega) (by omega) _).mono ?_
  rintro e w6 ⟨rfl, hb6⟩
  have hb6' := (hb5.trans (hb6.mono hb5.size)).alloc (by have := hb5.size; have := hb6.size; omega) (.cells #[.int .u32 (W K.k0), .int .u32 (W K.k1), .int .u32 (W K.k2), .int .u32 (W K.k3), .int .u32 (W K.k4), .int .u32 (W K.k5), .int .u32 (W K.k6), .int .u32 (W K.k7)] 28)
  have hv6 := Holds.newAt w6 28 [.int .u32 (W K.k0), .int .u32 (W K.k1), .int .u32 (W K.k2), .int .u32 (W K.k3), .int .u32 (W K.k4), .int .u32 (W K.k5), .int .u32 (W K.k6), .int .u32 (W K.k7)] (n := w6.heap.size) rfl
  clear hb0 hb5 hb6 hst5
  go_wp2_with fail
  refine (ky_one M hM _).mono ?_
  rintro e w7 ⟨rfl, hb7⟩
  have hb7' := (hb6'.trans (hb7.mono hb6'.size)).alloc (by have := hb6'.size; have := hb7.size; omega) (.cells #[.int .u32 (W M.k0), .int .u32 (W M.k1), .int .u32 (W M.k2), .int .u32 (W M.k3), .int .u32 (W M.k4), .int .u32 (W M.k5), .int .u32 (W M.k6), .int .u32 (W M.k7)] 28)
  have hv7 := (hv6.below hb7 hv6.lt).alloc (.cells #[.int .u32 (W M.k0), .int .u32 (W M.k1), .int .u32 (W M.k2), .int .u32 (W M.k3), .int .u32 (W M.k4), .int .u32 (W M.k5), .int .u32 (W M.k6), .int .u32 (W M.k7)] 28)
  have hm7 := Holds.newAt w7 28 [.int .u32 (W M.k0), .int .u32 (W M.k1), .int .u32 (W M.k2), .int .u32 (W M.k3), .int .u32 (W M.k4), .int .u32 (W M.k5), .int .u32 (W M.k6), .int .u32 (W M.k7)] (n := w7.heap.size) rfl
  clear hb6' hb7 hv6
  go_wp2_with fail
  refine (ky_one M hM _).mono ?_
  rintro e w8 ⟨rfl, hb8⟩
  have hb8' := (hb7'.trans (hb8.mono hb7'.size)).alloc (by have := hb7'.size; have := hb8.size; omega) (.cells #[.int .u32 (W M.k0), .int .u32 (W M.k1), .int .u32 (W M.k2), .int .u32 (W M.k3), .int .u32 (W M.k4), .int .u32 (W M.k5), .int .u32 (W M.k6), .int .u32 (W M.k7)] 28)
  have hv8 := (hv7.below hb8 hv7.lt).alloc (.cells #[.int .u32 (W M.k0), .int .u32 (W M.k1), .int .u32 (W M.k2), .int .u32 (W M.k3), .int .u32 (W M.k4), .int .u32 (W M.k5), .int .u32 (W M.k6), .int .u32 (W M.k7)] 28)
  have hm8 := (hm7.below hb8 hm7.lt).alloc (.cells #[.int .u32 (W M.k0), .int .u32 (W M.k1), .int .u32 (W M.k2), .int .u32 (W M.k3), .int .u32 (W M.k4), .int .u32 (W M.k5), .int .u32 (W M.k6), .int .u32 (W M.k7)] 28)
  have hp8 := Holds.newAt w8 28 [.int .u32 (W M.k0), .int .u32 (W M.k1), .int .u32 (W M.k2), .int .u32 (W M.k3), .int .u32 (W M.k4), .int .u32 (W M.k5), .int .u32 (W M.k6), .int .u32 (W M.k7)] (n := w8.heap.size) rfl
  clear hb7' hb8 hv7 hm7
  go_wp2_with fail
  refine (told16 _).mono ?_
  rintro e w9 ⟨rfl, hb9⟩
  have hfin := hb8'.trans (hb9.mono hb8'.size)
  have v8 := (hv8.below hb9 hv8.lt).eight
  have m8 := (hm8.below hb9 hm8.lt).eight
  have p8 := (hp8.below hb9 hp8.lt).eight
  clear hv8 hm8 hp8 hb8' hb9
  go_wp2_with fail
  go_ret
  exact ⟨ret_boolB (by simp), hfin⟩
set_option maxRecDepth 20000 in
set_option maxHeartbeats 8000000 in
theorem kbd_4l (n m : Int) (c : Nat) (w : World) (hn : (IntKind.u64.wrap n).tmod 5 = (c : Int)) (hm : (IntKind.u64.wrap m).tmod 6 = 4) (hc : 3 ≤ c ∧ c < 5) :
    Calls Try.prog 14 #[.int .i64 n, .int .i64 m] w fun e w' => e = .returned (.bool true) ∧ Below w.heap.size w w' := by
  have hc3 := wrap64_small c (by omega)
  obtain ⟨l, hl⟩ : ∃ l : List UInt8, Hid (l = List.replicate (98 + c) 0) := ⟨_, rfl⟩
  have hln : l.length = 98 + c := by rw [hl.out, List.length_replicate]
  obtain ⟨M, hM⟩ : ∃ M, Hid (M = keyL [] SO 1) := ⟨_, rfl⟩
  go_enter Try.func14, Try.ntmps14
  have hor : bits .or .u32 0 0 = 0 := by decide
  have hb0 : Below w.heap.size w (w.alloc (.cells #[.int .i64 (-1), .int .i64 0, .int .i64 1, .int .i64 2, .int .i64 1000, .int .i64 1001] 3)) := (Below.refl _ _).alloc (Nat.le_refl _) _
  go_wp2_with (at_make; refine wpList_mk (base := 0) (n := 98 + c) rfl (.tmp 26) (.tmp 26) rfl (by rfl) (by rfl) (by omega) (Nat.zero_le _) ?_; intro g w5 ho5 hg5 hgr5; have hB5 := ho5.bts; rw [← hl.out] at hB5; have hst5 : (convert 24 9 (.slice (some ⟨g, 0, none⟩) (98 + c) (98 + c))).run Try.prog w5 = .ok (.string (mkStr l)) w5 := (by have h := run_str hB5 (98 + c); rw [hln] at h; exact h); have hb5 := hb0.grown hgr5 (by simp) (by simp); clear ho5 hB5 hgr5 hg5)
  refine (ky_bad l _ (by omega) _).mono ?_
  rintro e w6 ⟨rfl, hb6⟩
  have hb6' := (hb5.trans (hb6.mono hb5.size)).alloc (by have := hb5.size; have := hb6.size; omega) (.cells #[.int .u32 0, .int .u32 0, .int .u32 0, .int .u32 0, .int .u32 0, .int .u32 0, .int .u32 0, .int .u32 0] 28)
  have hv6 := Holds.newAt w6 28 [.int .u32 0, .int .u32 0, .int .u32 0, .int .u32 0, .int .u32 0, .int .u32 0, .int .u32 0, .int .u32 0] (n := w6.heap.size) rfl
  clear hb0 hb5 hb6 hst5
  go_wp2_with fail
  refine (ky_one M hM _).mono ?_
  rintro e w7 ⟨rfl, hb7⟩
  have hb7' := (hb6'.trans (hb7.mono hb6'.size)).alloc (by have := hb6'.size; have := hb7.size; omega) (.cells #[.int .u32 (W M.k0), .int .u32 (W M.k1), .int .u32 (W M.k2), .int .u32 (W M.k3), .int .u32 (W M.k4), .int .u32 (W M.k5), .int .u32 (W M.k6), .int .u32 (W M.k7)] 28)
  have hv7 := (hv6.below hb7 hv6.lt).alloc (.cells #[.int .u32 (W M.k0), .int .u32 (W M.k1), .int .u32 (W M.k2), .int .u32 (W M.k3), .int .u32 (W M.k4), .int .u32 (W M.k5), .int .u32 (W M.k6), .int .u32 (W M.k7)] 28)
  have hm7 := Holds.newAt w7 28 [.int .u32 (W M.k0), .int .u32 (W M.k1), .int .u32 (W M.k2), .int .u32 (W M.k3), .int .u32 (W M.k4), .int .u32 (W M.k5), .int .u32 (W M.k6), .int .u32 (W M.k7)] (n := w7.heap.size) rfl
  clear hb6' hb7 hv6
  go_wp2_with fail
  refine (ky_one M hM _).mono ?_
  rintro e w8 ⟨rfl, hb8⟩
  have hb8' := (hb7'.trans (hb8.mono hb7'.size)).alloc (by have := hb7'.size; have := hb8.size; omega) (.cells #[.int .u32 (W M.k0), .int .u32 (W M.k1), .int .u32 (W M.k2), .int .u32 (W M.k3), .int .u32 (W M.k4), .int .u32 (W M.k5), .int .u32 (W M.k6), .int .u32 (W M.k7)] 28)
  have hv8 := (hv7.below hb8 hv7.lt).alloc (.cells #[.int .u32 (W M.k0), .int .u32 (W M.k1), .int .u32 (W M.k2), .int .u32 (W M.k3), .int .u32 (W M.k4), .int .u32 (W M.k5), .int .u32 (W M.k6), .int .u32 (W M.k7)] 28)
  have hm8 := (hm7.below hb8 hm7.lt).alloc (.cells #[.int .u32 (W M.k0), .int .u32 (W M.k1), .int .u32 (W M.k2), .int .u32 (W M.k3), .int .u32 (W M.k4), .int .u32 (W M.k5), .int .u32 (W M.k6), .int .u32 (W M.k7)] 28)
  have hp8 := Holds.newAt w8 28 [.int .u32 (W M.k0), .int .u32 (W M.k1), .int .u32 (W M.k2), .int .u32 (W M.k3), .int .u32 (W M.k4), .int .u32 (W M.k5), .int .u32 (W M.k6), .int .u32 (W M.k7)] (n := w8.heap.size) rfl
  clear hb7' hb8 hv7 hm7
  go_wp2_with fail
  refine (told16 _).mono ?_
  rintro e w9 ⟨rfl, hb9⟩
  have hfin := hb8'.trans (hb9.mono hb8'.size)
  have v8 := (hv8.below hb9 hv8.lt).eight
  have m8 := (hm8.below hb9 hm8.lt).eight
  have p8 := (hp8.below hb9 hp8.lt).eight
  clear hv8 hm8 hp8 hb8' hb9
  go_wp2_with fail
  go_ret
  exact ⟨ret_boolB (by simp), hfin⟩
set_option maxRecDepth 20000 in
set_option maxHeartbeats 8000000 in
theorem kbd_5s (n m : Int) (c : Nat) (w : World) (hn : (IntKind.u64.wrap n).tmod 5 = (c : Int)) (hm : (IntKind.u64.wrap m).tmod 6 = 5) (hc : c < 3) :
    Calls Try.prog 14 #[.int .i64 n, .int .i64 m] w fun e w' => e = .returned (.bool true) ∧ Below w.heap.size w w' := by
  have hc3 := wrap64_small c (by omega)
  obtain ⟨l, hl⟩ : ∃ l : List UInt8, Hid (l = List.replicate (98 + c) 0) := ⟨_, rfl⟩
  have hln : l.length = 98 + c := by rw [hl.out, List.length_replicate]
  obtain ⟨M, hM⟩ : ∃ M, Hid (M = keyL [] SO 1) := ⟨_, rfl⟩
  go_enter Try.func14, Try.ntmps14
  have hor : bits .or .u32 0 0 = 0 := by decide
  have hb0 : Below w.heap.size w (w.alloc (.cells #[.int .i64 (-1), .int .i64 0, .int .i64 1, .int .i64 2, .int .i64 1000, .int .i64 1001] 3)) := (Below.refl _ _).alloc (Nat.le_refl _) _
  go_wp2_with (at_make; refine wpList_mk (base := 0) (n := 98 + c) rfl (.tmp 26) (.tmp 26) rfl (by rfl) (by rfl) (by omega) (Nat.zero_le _) ?_; intro g w5 ho5 hg5 hgr5; have hB5 := ho5.bts; rw [← hl.out] at hB5; have hst5 : (convert 24 9 (.slice (some ⟨g, 0, none⟩) (98 + c) (98 + c))).run Try.prog w5 = .ok (.string (mkStr l)) w5 := (by have h := run_str hB5 (98 + c); rw [hln] at h; exact h); have hb5 := hb0.grown hgr5 (by simp) (by simp); clear ho5 hB5 hgr5 hg5)
  refine (ky_bad l _ (by omega) _).mono ?_
  rintro e w6 ⟨rfl, hb6⟩
  have hb6' := (hb5.trans (hb6.mono hb5.size)).alloc (by have := hb5.size; have := hb6.size; omega) (.cells #[.int .u32 0, .int .u32 0, .int .u32 0, .int .u32 0, .int .u32 0, .int .u32 0, .int .u32 0, .int .u32 0] 28)
  have hv6 := Holds.newAt w6 28 [.int .u32 0, .int .u32 0, .int .u32 0, .int .u32 0, .int .u32 0, .int .u32 0, .int .u32 0, .int .u32 0] (n := w6.heap.size) rfl
  clear hb0 hb5 hb6 hst5
  go_wp2_with fail
  refine (ky_one M hM _).mono ?_
  rintro e w7 ⟨rfl, hb7⟩
  have hb7' := (hb6'.trans (hb7.mono hb6'.size)).alloc (by have := hb6'.size; have := hb7.size; omega) (.cells #[.int .u32 (W M.k0), .int .u32 (W M.k1), .int .u32 (W M.k2), .int .u32 (W M.k3), .int .u32 (W M.k4), .int .u32 (W M.k5), .int .u32 (W M.k6), .int .u32 (W M.k7)] 28)
  have hv7 := (hv6.below hb7 hv6.lt).alloc (.cells #[.int .u32 (W M.k0), .int .u32 (W M.k1), .int .u32 (W M.k2), .int .u32 (W M.k3), .int .u32 (W M.k4), .int .u32 (W M.k5), .int .u32 (W M.k6), .int .u32 (W M.k7)] 28)
  have hm7 := Holds.newAt w7 28 [.int .u32 (W M.k0), .int .u32 (W M.k1), .int .u32 (W M.k2), .int .u32 (W M.k3), .int .u32 (W M.k4), .int .u32 (W M.k5), .int .u32 (W M.k6), .int .u32 (W M.k7)] (n := w7.heap.size) rfl
  clear hb6' hb7 hv6
  go_wp2_with fail
  refine (ky_one M hM _).mono ?_
  rintro e w8 ⟨rfl, hb8⟩
  have hb8' := (hb7'.trans (hb8.mono hb7'.size)).alloc (by have := hb7'.size; have := hb8.size; omega) (.cells #[.int .u32 (W M.k0), .int .u32 (W M.k1), .int .u32 (W M.k2), .int .u32 (W M.k3), .int .u32 (W M.k4), .int .u32 (W M.k5), .int .u32 (W M.k6), .int .u32 (W M.k7)] 28)
  have hv8 := (hv7.below hb8 hv7.lt).alloc (.cells #[.int .u32 (W M.k0), .int .u32 (W M.k1), .int .u32 (W M.k2), .int .u32 (W M.k3), .int .u32 (W M.k4), .int .u32 (W M.k5), .int .u32 (W M.k6), .int .u32 (W M.k7)] 28)
  have hm8 := (hm7.below hb8 hm7.lt).alloc (.cells #[.int .u32 (W M.k0), .int .u32 (W M.k1), .int .u32 (W M.k2), .int .u32 (W M.k3), .int .u32 (W M.k4), .int .u32 (W M.k5), .int .u32 (W M.k6), .int .u32 (W M.k7)] 28)
  have hp8 := Holds.newAt w8 28 [.int .u32 (W M.k0), .int .u32 (W M.k1), .int .u32 (W M.k2), .int .u32 (W M.k3), .int .u32 (W M.k4), .int .u32 (W M.k5), .int .u32 (W M.k6), .int .u32 (W M.k7)] (n := w8.heap.size) rfl
  clear hb7' hb8 hv7 hm7
  go_wp2_with fail
  refine (told16 _).mono ?_
  rintro e w9 ⟨rfl, hb9⟩
  have hfin := hb8'.trans (hb9.mono hb8'.size)
  have v8 := (hv8.below hb9 hv8.lt).eight
  have m8 := (hm8.below hb9 hm8.lt).eight
  have p8 := (hp8.below hb9 hp8.lt).eight
  clear hv8 hm8 hp8 hb8' hb9
  go_wp2_with fail
  go_ret
  exact ⟨ret_boolB (by simp), hfin⟩
set_option maxRecDepth 20000 in
set_option maxHeartbeats 8000000 in
theorem kbd_5l (n m : Int) (c : Nat) (w : World) (hn : (IntKind.u64.wrap n).tmod 5 = (c : Int)) (hm : (IntKind.u64.wrap m).tmod 6 = 5) (hc : 3 ≤ c ∧ c < 5) :
    Calls Try.prog 14 #[.int .i64 n, .int .i64 m] w fun e w' => e = .returned (.bool true) ∧ Below w.heap.size w w' := by
  have hc3 := wrap64_small c (by omega)
  obtain ⟨l, hl⟩ : ∃ l : List UInt8, Hid (l = List.replicate (98 + c) 0) := ⟨_, rfl⟩
  have hln : l.length = 98 + c := by rw [hl.out, List.length_replicate]
  obtain ⟨M, hM⟩ : ∃ M, Hid (M = keyL [] SO 1) := ⟨_, rfl⟩
  go_enter Try.func14, Try.ntmps14
  have hor : bits .or .u32 0 0 = 0 := by decide
  have hb0 : Below w.heap.size w (w.alloc (.cells #[.int .i64 (-1), .int .i64 0, .int .i64 1, .int .i64 2, .int .i64 1000, .int .i64 1001] 3)) := (Below.refl _ _).alloc (Nat.le_refl _) _
  go_wp2_with (at_make; refine wpList_mk (base := 0) (n := 98 + c) rfl (.tmp 26) (.tmp 26) rfl (by rfl) (by rfl) (by omega) (Nat.zero_le _) ?_; intro g w5 ho5 hg5 hgr5; have hB5 := ho5.bts; rw [← hl.out] at hB5; have hst5 : (convert 24 9 (.slice (some ⟨g, 0, none⟩) (98 + c) (98 + c))).run Try.prog w5 = .ok (.string (mkStr l)) w5 := (by have h := run_str hB5 (98 + c); rw [hln] at h; exact h); have hb5 := hb0.grown hgr5 (by simp) (by simp); clear ho5 hB5 hgr5 hg5)
  refine (ky_bad l _ (by omega) _).mono ?_
  rintro e w6 ⟨rfl, hb6⟩
  have hb6' := (hb5.trans (hb6.mono hb5.size)).alloc (by have := hb5.size; have := hb6.size; omega) (.cells #[.int .u32 0, .int .u32 0, .int .u32 0, .int .u32 0, .int .u32 0, .int .u32 0, .int .u32 0, .int .u32 0] 28)
  have hv6 := Holds.newAt w6 28 [.int .u32 0, .int .u32 0, .int .u32 0, .int .u32 0, .int .u32 0, .int .u32 0, .int .u32 0, .int .u32 0] (n := w6.heap.size) rfl
  clear hb0 hb5 hb6 hst5
  go_wp2_with fail
  refine (ky_one M hM _).mono ?_
  rintro e w7 ⟨rfl, hb7⟩
  have hb7' := (hb6'.trans (hb7.mono hb6'.size)).alloc (by have := hb6'.size; have := hb7.size; omega) (.cells #[.int .u32 (W M.k0), .int .u32 (W M.k1), .int .u32 (W M.k2), .int .u32 (W M.k3), .int .u32 (W M.k4), .int .u32 (W M.k5), .int .u32 (W M.k6), .int .u32 (W M.k7)] 28)
  have hv7 := (hv6.below hb7 hv6.lt).alloc (.cells #[.int .u32 (W M.k0), .int .u32 (W M.k1), .int .u32 (W M.k2), .int .u32 (W M.k3), .int .u32 (W M.k4), .int .u32 (W M.k5), .int .u32 (W M.k6), .int .u32 (W M.k7)] 28)
  have hm7 := Holds.newAt w7 28 [.int .u32 (W M.k0), .int .u32 (W M.k1), .int .u32 (W M.k2), .int .u32 (W M.k3), .int .u32 (W M.k4), .int .u32 (W M.k5), .int .u32 (W M.k6), .int .u32 (W M.k7)] (n := w7.heap.size) rfl
  clear hb6' hb7 hv6
  go_wp2_with fail
  refine (ky_one M hM _).mono ?_
  rintro e w8 ⟨rfl, hb8⟩
  have hb8' := (hb7'.trans (hb8.mono hb7'.size)).alloc (by have := hb7'.size; have := hb8.size; omega) (.cells #[.int .u32 (W M.k0), .int .u32 (W M.k1), .int .u32 (W M.k2), .int .u32 (W M.k3), .int .u32 (W M.k4), .int .u32 (W M.k5), .int .u32 (W M.k6), .int .u32 (W M.k7)] 28)
  have hv8 := (hv7.below hb8 hv7.lt).alloc (.cells #[.int .u32 (W M.k0), .int .u32 (W M.k1), .int .u32 (W M.k2), .int .u32 (W M.k3), .int .u32 (W M.k4), .int .u32 (W M.k5), .int .u32 (W M.k6), .int .u32 (W M.k7)] 28)
  have hm8 := (hm7.below hb8 hm7.lt).alloc (.cells #[.int .u32 (W M.k0), .int .u32 (W M.k1), .int .u32 (W M.k2), .int .u32 (W M.k3), .int .u32 (W M.k4), .int .u32 (W M.k5), .int .u32 (W M.k6), .int .u32 (W M.k7)] 28)
  have hp8 := Holds.newAt w8 28 [.int .u32 (W M.k0), .int .u32 (W M.k1), .int .u32 (W M.k2), .int .u32 (W M.k3), .int .u32 (W M.k4), .int .u32 (W M.k5), .int .u32 (W M.k6), .int .u32 (W M.k7)] (n := w8.heap.size) rfl
  clear hb7' hb8 hv7 hm7
  go_wp2_with fail
  refine (told16 _).mono ?_
  rintro e w9 ⟨rfl, hb9⟩
  have hfin := hb8'.trans (hb9.mono hb8'.size)
  have v8 := (hv8.below hb9 hv8.lt).eight
  have m8 := (hm8.below hb9 hm8.lt).eight
  have p8 := (hp8.below hb9 hp8.lt).eight
  clear hv8 hm8 hp8 hb8' hb9
  go_wp2_with fail
  go_ret
  exact ⟨ret_boolB (by simp), hfin⟩
theorem walk_KeyBounds (n m : Int) (w : World) (_hn : -9223372036854775808 ≤ n ∧ n < 9223372036854775808) (_hm : -9223372036854775808 ≤ m ∧ m < 9223372036854775808) :
    Calls Try.prog 14 #[.int .i64 n, .int .i64 m] w fun e w' => e = .returned (.bool true) ∧ Below w.heap.size w w' := by
  obtain ⟨c, hc, hc2⟩ := utmod n 5 (by omega)
  obtain ⟨i, hi, h4⟩ := utmod m 6 (by omega)
  by_cases h3 : c < 3
  · obtain rfl | rfl | rfl | rfl | rfl | rfl : i = 0 ∨ i = 1 ∨ i = 2 ∨ i = 3 ∨ i = 4 ∨ i = 5 := by omega
    · exact kbd_0s n m c w hc2 h4 h3
    · exact kbd_1s n m c w hc2 h4 h3
    · exact kbd_2s n m c w hc2 h4 h3
    · exact kbd_3s n m c w hc2 h4 h3
    · exact kbd_4s n m c w hc2 h4 h3
    · exact kbd_5s n m c w hc2 h4 h3
  · obtain rfl | rfl | rfl | rfl | rfl | rfl : i = 0 ∨ i = 1 ∨ i = 2 ∨ i = 3 ∨ i = 4 ∨ i = 5 := by omega
    · exact kbd_0l n m c w hc2 h4 ⟨by omega, hc⟩
    · exact kbd_1l n m c w hc2 h4 ⟨by omega, hc⟩
    · exact kbd_2l n m c w hc2 h4 ⟨by omega, hc⟩
    · exact kbd_3l n m c w hc2 h4 ⟨by omega, hc⟩
    · exact kbd_4l n m c w hc2 h4 ⟨by omega, hc⟩
    · exact kbd_5l n m c w hc2 h4 ⟨by omega, hc⟩
end Go.Proofs.Ytcdklmicbbcknaa
