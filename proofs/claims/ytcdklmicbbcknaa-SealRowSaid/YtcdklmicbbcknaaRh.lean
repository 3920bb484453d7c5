/-
  The reference's num and Open: walks of its text (printed by rq.py and rhall.py, put together).
-/
import Derived.Test.YtcdklmicbbcknaaRg
import Derived.Test.YtcdklmicbbcknaaSx
import Derived.Test.YtcdklmicbbcknaaRx
import Derived.Test.YtcdklmicbbcknaaSa
import Derived.Test.YtcdklmicbbcknaaRt
import Derived.Test.YtcdklmicbbcknaaKo
import Derived.Test.YtcdklmicbbcknaaSu
namespace Go.Proofs.Ytcdklmicbbcknaa
open Go Go.RowKit
set_option linter.unusedVariables false
theorem rdL_code (b : List UInt8) (at_ : Nat) : ∀ (f n u k : Nat), (rdL b at_ f n u k).2.2 = 0 ∨ ((rdL b at_ f n u k).1 = 0 ∧ (rdL b at_ f n u k).2.1 = at_ ∧ ((rdL b at_ f n u k).2.2 = 3 ∨ (rdL b at_ f n u k).2.2 = 5))
  | 0, _, _, _ => .inr ⟨rfl, rfl, .inr rfl⟩
  | f + 1, n, u, k => by
    rw [rdL]
    split
    · exact .inr ⟨rfl, rfl, .inr rfl⟩
    · split
      · split
        · exact .inr ⟨rfl, rfl, .inl rfl⟩
        · split
          · exact .inr ⟨rfl, rfl, .inr rfl⟩
          · split
            · exact .inr ⟨rfl, rfl, .inl rfl⟩
            · exact rdL_code b at_ f _ _ _
      · split
        · exact .inr ⟨rfl, rfl, .inl rfl⟩
        · exact .inl rfl
set_option maxRecDepth 20000 in
set_option maxHeartbeats 8000000 in
theorem rnum_any (s : ByteArray) (at_ most : Nat) (z : Int) (hz : z = at_) (w : World) (hat : at_ ≤ s.size) (hs : s.size ≤ 1000000000) (hm : most ≤ 1048576) (n t cd : Nat) (hN : Hid (numL s.data.toList at_ most = (n, t, cd))) (m : Int) (hmm : m = most) :
    Calls Try.prog 71 #[.string s, .int .i64 z, .int .u64 m] w fun e w' => (cd = 0 → e = .returned (.tuple #[.int .i64 n, .int .i64 t, .int .i64 0]) ∧ n ≤ most) ∧ (cd ≠ 0 → ∃ z1 z2, e = .returned (.tuple #[.int .i64 z1, .int .i64 z2, .int .i64 cd])) ∧ w = w' := by
  subst hz hmm
  have h := hN.out
  unfold numL at h
  have hcode := rdL_code s.data.toList at_ 9 0 1 at_
  change (readL s.data.toList at_).2.2 = 0 ∨ _ at hcode
  have hR : Hid (readL s.data.toList at_ = readL s.data.toList at_) := rfl
  obtain ⟨r0, t0, c0, hr⟩ : ∃ r0 t0 c0, Hid (readL s.data.toList at_ = (r0, t0, c0)) := ⟨_, _, _, rfl⟩
  rw [hr.out] at h
  change (readL s.data.toList at_).2.2 = 0 ∨ ((readL s.data.toList at_).1 = 0 ∧ (readL s.data.toList at_).2.1 = at_ ∧ ((readL s.data.toList at_).2.2 = 3 ∨ (readL s.data.toList at_).2.2 = 5)) at hcode
  rw [hr.out] at hcode
  dsimp only at hcode h
  simp only [Prod.mk.injEq] at h
  obtain ⟨rfl, rfl, h3⟩ := h
  clear hR
  have hg := rget_any s at_ w hat hs
  have hru := runs_any s at_ w hat hs
  rw [hr.out] at hg hru
  dsimp only at hru
  have HG := Lib.hid hg
  have HRU := Lib.hid hru
  clear hg hru hr hN
  rcases hcode with h0 | ⟨h1, h2, h5⟩
  · subst h0
    rw [rgV, if_pos rfl] at HG
    dsimp only at HG
    by_cases hbig : most < r0
    · rw [if_pos ⟨rfl, hbig⟩] at h3
      subst h3
      have hbI : (most : Int) < (r0 : Int) := by omega
      go_enter Try.func71, Try.ntmps71
      go_wp2_with fail
      refine HG.out.mono ?_
      rintro e w' ⟨rfl, rfl⟩
      go_wp2_with fail
      exact bodyPost_ret (v := .tuple #[.int .i64 0, .int .i64 at_, .int .i64 3]) (by simp [results, Try.results71, go_sem]) rfl ⟨fun h => absurd h (by decide), fun _ => ⟨_, _, rfl⟩, rfl⟩
    · rw [if_neg (fun h => hbig h.2)] at h3
      subst h3
      have hbI : ¬ (most : Int) < (r0 : Int) := by omega
      have hrs : r0 ≤ 1048576 := by omega
      go_enter Try.func71, Try.ntmps71
      go_wp2_with fail
      refine HG.out.mono ?_
      rintro e w' ⟨rfl, rfl⟩
      go_wp2_with fail
      exact bodyPost_ret (v := .tuple #[.int .i64 r0, .int .i64 t0, .int .i64 0]) (by simp [results, Try.results71, go_sem]) rfl ⟨fun _ => ⟨rfl, by omega⟩, fun h => absurd rfl h, rfl⟩
  · have hc0 : c0 ≠ 0 := by omega
    rw [if_neg (fun h => hc0 h.1)] at h3
    subst h3
    rw [rgV, if_neg (by exact hc0)] at HG
    go_enter Try.func71, Try.ntmps71
    go_wp2_with fail
    refine HG.out.mono ?_
    rintro e w' ⟨rfl, rfl⟩
    go_wp2_with fail
    refine HRU.out.mono ?_
    rintro e w' ⟨rfl, rfl⟩
    rcases h5 with rfl | rfl
    · go_wp2_with fail
      exact bodyPost_ret (v := .tuple #[.int .i64 0, .int .i64 at_, .int .i64 3]) (by simp [results, Try.results71, go_sem]) rfl ⟨fun h => absurd h (by decide), fun _ => ⟨_, _, rfl⟩, rfl⟩
    · go_wp2_with fail
      exact bodyPost_ret (v := .tuple #[.int .i64 0, .int .i64 at_, .int .i64 5]) (by simp [results, Try.results71, go_sem]) rfl ⟨fun h => absurd h (by decide), fun _ => ⟨_, _, rfl⟩, rfl⟩
set_option maxRecDepth 20000 in
set_option maxHeartbeats 8000000 in
theorem ropen_1 (k : K8) (s : ByteArray) (at_ : Nat) (place : Int) (w : World) (hl : s.size ≤ 100000) (h : at_ = s.size) :
    Calls Try.prog 60 #[.agg #[.int .u32 (W k.k0), .int .u32 (W k.k1), .int .u32 (W k.k2), .int .u32 (W k.k3), .int .u32 (W k.k4), .int .u32 (W k.k5), .int .u32 (W k.k6), .int .u32 (W k.k7)], .string s, .int .i64 at_, .int .i64 place] w fun e w' => e = .returned (.tuple #[zseg, .int .i64 at_, .int .i64 5]) ∧ Below w.heap.size w w' := by
  have hb0 : Below w.heap.size w ((w.alloc (.cells #[.int .u32 (W k.k0), .int .u32 (W k.k1), .int .u32 (W k.k2), .int .u32 (W k.k3), .int .u32 (W k.k4), .int .u32 (W k.k5), .int .u32 (W k.k6), .int .u32 (W k.k7)] 32)).alloc (.cells #[.int .i64 0, .int .i64 0, .bool false, .slice none 0 0] 81)) := ((Below.refl _ _).alloc (Nat.le_refl _) _).alloc (by simp) _
  subst h
  go_enter Try.func60, Try.ntmps60
  go_wp2_with fail
  exact bodyPost_ret (v := .tuple #[zseg, .int .i64 s.size, .int .i64 5]) (by simp [results, Try.results60, go_sem, zseg]) rfl ⟨rfl, hb0⟩
set_option maxRecDepth 20000 in
set_option maxHeartbeats 8000000 in
theorem ropen_1b (k : K8) (s : ByteArray) (at_ : Nat) (place : Int) (w : World) (hl : s.size ≤ 100000) (h : at_ < s.size) (y : Nat) (hy : s[at_].toNat = y) (h2 : y < 1 ∨ 3 < y) :
    Calls Try.prog 60 #[.agg #[.int .u32 (W k.k0), .int .u32 (W k.k1), .int .u32 (W k.k2), .int .u32 (W k.k3), .int .u32 (W k.k4), .int .u32 (W k.k5), .int .u32 (W k.k6), .int .u32 (W k.k7)], .string s, .int .i64 at_, .int .i64 place] w fun e w' => e = .returned (.tuple #[zseg, .int .i64 at_, .int .i64 3]) ∧ Below w.heap.size w w' := by
  have hb0 : Below w.heap.size w ((w.alloc (.cells #[.int .u32 (W k.k0), .int .u32 (W k.k1), .int .u32 (W k.k2), .int .u32 (W k.k3), .int .u32 (W k.k4), .int .u32 (W k.k5), .int .u32 (W k.k6), .int .u32 (W k.k7)] 32)).alloc (.cells #[.int .i64 0, .int .i64 0, .bool false, .slice none 0 0] 81)) := ((Below.refl _ _).alloc (Nat.le_refl _) _).alloc (by simp) _
  have hyI : (s[at_].toNat : Int) = (y : Int) := by omega
  have hyb : y < 256 := by rw [← hy]; exact UInt8.toNat_lt _
  have hb1 := hb0.alloc (by simp; omega) (.cells #[.int .i64 y, .int .i64 0, .bool false, .slice none 0 0] 81)
  clear hy
  rcases h2 with h2 | h2
  all_goals (
    go_enter Try.func60, Try.ntmps60
    go_wp2_with fail
    exact bodyPost_ret (v := .tuple #[zseg, .int .i64 at_, .int .i64 3]) (by simp [results, Try.results60, go_sem, zseg]) rfl ⟨rfl, hb1⟩)
set_option maxRecDepth 20000 in
set_option maxHeartbeats 8000000 in
theorem ropen_2 (k : K8) (s : ByteArray) (at_ : Nat) (place : Int) (w : World) (hl : s.size ≤ 100000) (h : at_ < s.size) (y : Nat) (hy : Hid (s[at_].toNat = y)) (hy1 : 1 ≤ y) (hy3 : y ≤ 3) (n t cd : Nat) (hN : Hid (numL s.data.toList (at_ + 1) 1048576 = (n, t, cd))) (hcd : cd ≠ 0) :
    Calls Try.prog 60 #[.agg #[.int .u32 (W k.k0), .int .u32 (W k.k1), .int .u32 (W k.k2), .int .u32 (W k.k3), .int .u32 (W k.k4), .int .u32 (W k.k5), .int .u32 (W k.k6), .int .u32 (W k.k7)], .string s, .int .i64 at_, .int .i64 place] w fun e w' => e = .returned (.tuple #[zseg, .int .i64 at_, .int .i64 cd]) ∧ Below w.heap.size w w' := by
  have hb0 : Below w.heap.size w ((w.alloc (.cells #[.int .u32 (W k.k0), .int .u32 (W k.k1), .int .u32 (W k.k2), .int .u32 (W k.k3), .int .u32 (W k.k4), .int .u32 (W k.k5), .int .u32 (W k.k6), .int .u32 (W k.k7)] 32)).alloc (.cells #[.int .i64 0, .int .i64 0, .bool false, .slice none 0 0] 81)) := ((Below.refl _ _).alloc (Nat.le_refl _) _).alloc (by simp) _
  have hyI : (s[at_].toNat : Int) = (y : Int) := by have := hy.out; omega
  have hb1 := hb0.alloc (by simp; omega) (.cells #[.int .i64 y, .int .i64 0, .bool false, .slice none 0 0] 81)
  have hcI : ((cd : Int) == 0) = false := beq_eq_false_iff_ne.2 (by omega)
  go_enter Try.func60, Try.ntmps60
  go_wp2_with fail
  refine (rnum_any s (at_ + 1) 1048576 _ (by omega) _ (by omega) (by omega) (by omega) n t cd hN _ rfl).mono ?_
  rintro e w1 ⟨_, hq, rfl⟩
  obtain ⟨z1, z2, rfl⟩ := hq hcd
  go_wp2_with fail
  exact bodyPost_ret (v := .tuple #[zseg, .int .i64 at_, .int .i64 cd]) (by simp [results, Try.results60, go_sem, zseg]) rfl ⟨rfl, hb1⟩
set_option maxRecDepth 20000 in
set_option maxHeartbeats 8000000 in
theorem ropen_3 (k : K8) (s : ByteArray) (at_ : Nat) (place : Int) (w : World) (hl : s.size ≤ 100000) (h : at_ < s.size) (y : Nat) (hy : Hid (s[at_].toNat = y)) (hy1 : 1 ≤ y) (hy3 : y ≤ 3) (P t : Nat) (hN : Hid (numL s.data.toList (at_ + 1) 1048576 = (P, t, 0))) (ht : t ≤ s.size) (n t2 cd : Nat) (hN2 : Hid (numL s.data.toList t 12100 = (n, t2, cd))) (hcd : cd ≠ 0) :
    Calls Try.prog 60 #[.agg #[.int .u32 (W k.k0), .int .u32 (W k.k1), .int .u32 (W k.k2), .int .u32 (W k.k3), .int .u32 (W k.k4), .int .u32 (W k.k5), .int .u32 (W k.k6), .int .u32 (W k.k7)], .string s, .int .i64 at_, .int .i64 place] w fun e w' => e = .returned (.tuple #[zseg, .int .i64 at_, .int .i64 cd]) ∧ Below w.heap.size w w' := by
  have hb0 : Below w.heap.size w ((w.alloc (.cells #[.int .u32 (W k.k0), .int .u32 (W k.k1), .int .u32 (W k.k2), .int .u32 (W k.k3), .int .u32 (W k.k4), .int .u32 (W k.k5), .int .u32 (W k.k6), .int .u32 (W k.k7)] 32)).alloc (.cells #[.int .i64 0, .int .i64 0, .bool false, .slice none 0 0] 81)) := ((Below.refl _ _).alloc (Nat.le_refl _) _).alloc (by simp) _
  have hyI : (s[at_].toNat : Int) = (y : Int) := by have := hy.out; omega
  have hb1 := hb0.alloc (by simp; omega) (.cells #[.int .i64 y, .int .i64 0, .bool false, .slice none 0 0] 81)
  have hcI : ((cd : Int) == 0) = false := beq_eq_false_iff_ne.2 (by omega)
  go_enter Try.func60, Try.ntmps60
  go_wp2_with fail
  refine (rnum_any s (at_ + 1) 1048576 _ (by omega) _ (by omega) (by omega) (by omega) P t 0 hN _ rfl).mono ?_
  rintro e w1 ⟨hq, _, rfl⟩
  obtain ⟨rfl, hPm⟩ := hq rfl
  clear hq
  go_wp2_with fail
  refine (rnum_any s t 12100 _ rfl _ ht (by omega) (by omega) n t2 cd hN2 _ rfl).mono ?_
  rintro e w1 ⟨_, hq, rfl⟩
  obtain ⟨z1, z2, rfl⟩ := hq hcd
  go_wp2_with fail
  exact bodyPost_ret (v := .tuple #[zseg, .int .i64 at_, .int .i64 cd]) (by simp [results, Try.results60, go_sem, zseg]) rfl ⟨rfl, hb1⟩
set_option maxRecDepth 20000 in
set_option maxHeartbeats 8000000 in
theorem ropen_4 (k : K8) (s : ByteArray) (at_ : Nat) (place : Int) (w : World) (hl : s.size ≤ 100000) (h : at_ < s.size) (y : Nat) (hy : Hid (s[at_].toNat = y)) (hy1 : 1 ≤ y) (hy3 : y ≤ 3) (P t : Nat) (hN : Hid (numL s.data.toList (at_ + 1) 1048576 = (P, t, 0))) (ht : t ≤ s.size) (n t2 : Nat) (hN2 : Hid (numL s.data.toList t 12100 = (n, t2, 0))) (ht2 : t2 ≤ s.size) (hcut : s.size - t2 < n + 8) :
    Calls Try.prog 60 #[.agg #[.int .u32 (W k.k0), .int .u32 (W k.k1), .int .u32 (W k.k2), .int .u32 (W k.k3), .int .u32 (W k.k4), .int .u32 (W k.k5), .int .u32 (W k.k6), .int .u32 (W k.k7)], .string s, .int .i64 at_, .int .i64 place] w fun e w' => e = .returned (.tuple #[zseg, .int .i64 at_, .int .i64 5]) ∧ Below w.heap.size w w' := by
  have hb0 : Below w.heap.size w ((w.alloc (.cells #[.int .u32 (W k.k0), .int .u32 (W k.k1), .int .u32 (W k.k2), .int .u32 (W k.k3), .int .u32 (W k.k4), .int .u32 (W k.k5), .int .u32 (W k.k6), .int .u32 (W k.k7)] 32)).alloc (.cells #[.int .i64 0, .int .i64 0, .bool false, .slice none 0 0] 81)) := ((Below.refl _ _).alloc (Nat.le_refl _) _).alloc (by simp) _
  have hyI : (s[at_].toNat : Int) = (y : Int) := by have := hy.out; omega
  have hb1 := hb0.alloc (by simp; omega) (.cells #[.int .i64 y, .int .i64 0, .bool false, .slice none 0 0] 81)
  go_enter Try.func60, Try.ntmps60
  go_wp2_with fail
  refine (rnum_any s (at_ + 1) 1048576 _ (by omega) _ (by omega) (by omega) (by omega) P t 0 hN _ rfl).mono ?_
  rintro e w1 ⟨hq, _, rfl⟩
  obtain ⟨rfl, hPm⟩ := hq rfl
  clear hq
  go_wp2_with fail
  refine (rnum_any s t 12100 _ rfl _ ht (by omega) (by omega) n t2 0 hN2 _ rfl).mono ?_
  rintro e w1 ⟨hq, _, rfl⟩
  obtain ⟨rfl, hnm⟩ := hq rfl
  clear hq
  have hcI : (s.size : Int) < (t2 : Int) + (n : Int) + 8 := by omega
  go_wp2_with fail
  exact bodyPost_ret (v := .tuple #[zseg, .int .i64 at_, .int .i64 5]) (by simp [results, Try.results60, go_sem, zseg]) rfl ⟨rfl, hb1⟩
end Go.Proofs.Ytcdklmicbbcknaa

namespace Go.Proofs.Ytcdklmicbbcknaa
open Go Go.RowKit
set_option linter.unusedVariables false
theorem ro_tag (k : K8) (P : Nat) (T TG : List UInt8) (hTG : Hid (tagL k P T = TG)) (hl : T.length ≤ 100000) (w : World) :
    Calls Try.prog 28 #[.agg #[.int .u32 (W k.k0), .int .u32 (W k.k1), .int .u32 (W k.k2), .int .u32 (W k.k3), .int .u32 (W k.k4), .int .u32 (W k.k5), .int .u32 (W k.k6), .int .u32 (W k.k7)], .int .i64 P, .string (mkStr T)] w fun e w' => e = .returned (.string (mkStr TG)) ∧ Below w.heap.size w w' := by
  obtain rfl := hTG.out
  exact rtag_any k P T w hl
theorem ro_xor (k : K8) (P n : Nat) (D X : List UInt8) (hn : D.length = n) (hX : Hid (X = xorL (streamL k P n) D)) (hl : n ≤ 12100) (w : World) :
    Calls Try.prog 49 #[.agg #[.int .u32 (W k.k0), .int .u32 (W k.k1), .int .u32 (W k.k2), .int .u32 (W k.k3), .int .u32 (W k.k4), .int .u32 (W k.k5), .int .u32 (W k.k6), .int .u32 (W k.k7)], .int .i64 P, .string (mkStr D)] w fun e w' => e = .returned (.string (mkStr X)) ∧ Below w.heap.size w w' := by
  subst hn
  obtain rfl := hX.out
  exact rxor_any k P D w (by omega)
theorem mkStr_cut (s : ByteArray) (a b n : Nat) (hn : b - a = n) : s.extract a b = mkStr ((s.data.toList.drop a).take n) := by
  subst hn
  exact ByteArray.extract_mk s.data.toList a b
theorem wp_btsN {o : Oper} {a : Act} {K : Act → World → Prop} {Q : Exit → Act → World → Prop} {w : World} {l : List UInt8} (x : Operand) (ho : o.op = .convert 9 24 x) (hx : a.eval x = .string (mkStr l))
    (hK : ∀ c g w', w.heap.size ≤ g → Bts w' (some ⟨g, 0, none⟩) l → Below w.heap.size w w' → K (a.put o.dst (.slice (some ⟨g, 0, none⟩) l.length c)) w') : o.wp Try.prog a w K Q :=
  wp_bts x ho hx (fun c w' hB hb => hK c w.heap.size w' (Nat.le_refl _) hB hb)
structure OpS (w0 : World) (k : K8) (s : List Value) (w : World) : Prop where
  kh : Holds w w0.heap.size 32 [.int .u32 (W k.k0), .int .u32 (W k.k1), .int .u32 (W k.k2), .int .u32 (W k.k3), .int .u32 (W k.k4), .int .u32 (W k.k5), .int .u32 (W k.k6), .int .u32 (W k.k7)]
  zh : Holds w (w0.heap.size + 1) 81 [.int .i64 0, .int .i64 0, .bool false, .slice none 0 0]
  sh : Holds w (w0.heap.size + 1 + 1) 81 s
  wh : Below w0.heap.size w0 w
theorem OpS.keep {w0 w w' : World} {k : K8} {s : List Value} (h : OpS w0 k s w) (hb : Below w.heap.size w w') : OpS w0 k s w' :=
  ⟨h.kh.below hb h.kh.lt, h.zh.below hb h.zh.lt, h.sh.below hb h.sh.lt, h.wh.trans (hb.mono h.wh.size)⟩
theorem OpS.put {w0 w : World} {k : K8} {s : List Value} (h : OpS w0 k s w) (i : Nat) (v : Value) : OpS w0 k (s.set i v) (w.setCell ⟨w0.heap.size + 1 + 1, i, none⟩ v) :=
  ⟨h.kh.far (p := ⟨w0.heap.size + 1 + 1, i, none⟩) (show w0.heap.size ≠ w0.heap.size + 1 + 1 by omega) v, h.zh.far (p := ⟨w0.heap.size + 1 + 1, i, none⟩) (show w0.heap.size + 1 ≠ w0.heap.size + 1 + 1 by omega) v, h.sh.set i v, h.wh.setCell (p := ⟨w0.heap.size + 1 + 1, i, none⟩) (show w0.heap.size ≤ w0.heap.size + 1 + 1 by omega) v⟩
set_option maxRecDepth 20000 in
set_option maxHeartbeats 16000000 in
theorem ropen_5 (k : K8) (s : ByteArray) (at_ : Nat) (place : Int) (w : World) (hl : s.size ≤ 100000) (h : at_ < s.size) (y : Nat) (hy : Hid (s[at_].toNat = y)) (hy1 : 1 ≤ y) (hy3 : y ≤ 3) (P t : Nat) (hN : Hid (numL s.data.toList (at_ + 1) 1048576 = (P, t, 0))) (ht : t ≤ s.size) (hat : at_ < t)
    (n t2 : Nat) (hN2 : Hid (numL s.data.toList t 12100 = (n, t2, 0))) (ht2 : t2 ≤ s.size) (htt : t < t2) (hlong : n + 8 ≤ s.size - t2) (hd : Hid (decide (tagL k P ((s.data.toList.drop at_).take (t2 + n - at_)) = (s.data.toList.drop (t2 + n)).take 8) = false)) :
    Calls Try.prog 60 #[.agg #[.int .u32 (W k.k0), .int .u32 (W k.k1), .int .u32 (W k.k2), .int .u32 (W k.k3), .int .u32 (W k.k4), .int .u32 (W k.k5), .int .u32 (W k.k6), .int .u32 (W k.k7)], .string s, .int .i64 at_, .int .i64 place] w fun e w' => e = .returned (.tuple #[zseg, .int .i64 at_, .int .i64 4]) ∧ Below w.heap.size w w' := by
  have hsl : Hid (s.data.toList.length = s.size) := rfl
  obtain ⟨T, hT⟩ : ∃ T, Hid (T = (s.data.toList.drop at_).take (t2 + n - at_)) := ⟨_, rfl⟩
  obtain ⟨U, hU⟩ : ∃ U, Hid (U = (s.data.toList.drop (t2 + n)).take 8) := ⟨_, rfl⟩
  obtain ⟨TG, hTG⟩ : ∃ TG, Hid (tagL k P T = TG) := ⟨_, rfl⟩
  obtain ⟨D, hD⟩ : ∃ D, Hid (D = (s.data.toList.drop t2).take n) := ⟨_, rfl⟩
  have hdd : ((mkStr TG).toList == (mkStr U).toList) = false := by
    rw [mkStr_toList, mkStr_toList, ← hTG.out, hT.out, hU.out, ← hd.out, Bool.eq_iff_iff, beq_iff_eq, decide_eq_true_iff]
  have hTl : T.length ≤ 100000 := by rw [hT.out, List.length_take, List.length_drop, hsl.out]; omega
  have hDl : D.length = n := by rw [hD.out, List.length_take, List.length_drop, hsl.out]; omega
  have hxT : s.extract at_ (t2 + n) = mkStr T := by rw [mkStr_cut s at_ (t2 + n) _ rfl, hT.out]
  have hxU : s.extract (t2 + n) (t2 + n + 8) = mkStr U := by rw [mkStr_cut s (t2 + n) (t2 + n + 8) 8 (by omega), hU.out]
  have hxD : s.extract t2 (t2 + n) = mkStr D := by rw [mkStr_cut s t2 (t2 + n) n (by omega), hD.out]
  have hb0 : Below w.heap.size w ((w.alloc (.cells #[.int .u32 (W k.k0), .int .u32 (W k.k1), .int .u32 (W k.k2), .int .u32 (W k.k3), .int .u32 (W k.k4), .int .u32 (W k.k5), .int .u32 (W k.k6), .int .u32 (W k.k7)] 32)).alloc (.cells #[.int .i64 0, .int .i64 0, .bool false, .slice none 0 0] 81)) := ((Below.refl _ _).alloc (Nat.le_refl _) _).alloc (by simp) _
  have hb2 := hb0.alloc (by simp; omega) (.cells #[.int .i64 (y : Int), .int .i64 0, .bool false, .slice none 0 0] 81)
  have hk2 := ((Holds.newAt w 32 [.int .u32 (W k.k0), .int .u32 (W k.k1), .int .u32 (W k.k2), .int .u32 (W k.k3), .int .u32 (W k.k4), .int .u32 (W k.k5), .int .u32 (W k.k6), .int .u32 (W k.k7)] (n := w.heap.size) rfl).alloc (.cells #[.int .i64 0, .int .i64 0, .bool false, .slice none 0 0] 81)).alloc (.cells #[.int .i64 (y : Int), .int .i64 0, .bool false, .slice none 0 0] 81)
  have hz2 := (Holds.newAt (w.alloc (.cells #[.int .u32 (W k.k0), .int .u32 (W k.k1), .int .u32 (W k.k2), .int .u32 (W k.k3), .int .u32 (W k.k4), .int .u32 (W k.k5), .int .u32 (W k.k6), .int .u32 (W k.k7)] 32)) 81 [.int .i64 0, .int .i64 0, .bool false, .slice none 0 0] (n := w.heap.size + 1) (by simp)).alloc (.cells #[.int .i64 (y : Int), .int .i64 0, .bool false, .slice none 0 0] 81)
  have hs2 := Holds.newAt ((w.alloc (.cells #[.int .u32 (W k.k0), .int .u32 (W k.k1), .int .u32 (W k.k2), .int .u32 (W k.k3), .int .u32 (W k.k4), .int .u32 (W k.k5), .int .u32 (W k.k6), .int .u32 (W k.k7)] 32)).alloc (.cells #[.int .i64 0, .int .i64 0, .bool false, .slice none 0 0] 81)) 81 [.int .i64 (y : Int), .int .i64 0, .bool false, .slice none 0 0] (n := w.heap.size + 1 + 1) (by simp)
  have HS2 : Hid (OpS w k [.int .i64 (y : Int), .int .i64 0, .bool false, .slice none 0 0] _) := Lib.hid ⟨hk2, hz2, hs2, hb2⟩
  clear hk2 hz2 hs2 hb2 hb0 hd
  have hyI : (s[at_].toNat : Int) = (y : Int) := by have := hy.out; omega
  go_enter Try.func60, Try.ntmps60
  go_wp2_with fail
  refine (rnum_any s (at_ + 1) 1048576 _ (by omega) _ (by omega) (by omega) (by omega) P t 0 hN _ rfl).mono ?_
  rintro e w1 ⟨hq, _, rfl⟩
  obtain ⟨rfl, hPm⟩ := hq rfl
  clear hq
  go_wp2_with fail
  refine (rnum_any s t 12100 _ rfl _ ht (by omega) (by omega) n t2 0 hN2 _ rfl).mono ?_
  rintro e w1 ⟨hq, _, rfl⟩
  obtain ⟨rfl, hnm⟩ := hq rfl
  clear hq
  have hcI : ¬ (s.size : Int) < (t2 : Int) + (n : Int) + 8 := by omega
  go_wp2_with fail
  have hn1 : (0 : Int) ≤ (at_ : Int) := by omega
  have hn2 : (at_ : Int) ≤ (t2 : Int) + (n : Int) := by omega
  have hn3 : (t2 : Int) + (n : Int) ≤ (s.size : Int) := by omega
  have hn4 : ((t2 : Int) + (n : Int)).toNat = t2 + n := by omega
  have hn5 : (0 : Int) ≤ (t2 : Int) + (n : Int) := by omega
  have hn6 : (t2 : Int) + (n : Int) ≤ (t2 : Int) + (n : Int) + 8 := by omega
  have hn7 : (t2 : Int) + (n : Int) + 8 ≤ (s.size : Int) := by omega
  have hn8 : ((t2 : Int) + (n : Int) + 8).toNat = t2 + n + 8 := by omega
  have hw1 : IntKind.i64.wrap ((t2 : Int) + (n : Int)) = (t2 : Int) + (n : Int) := by simp [IntKind.wrap, IntKind.bits, IntKind.signed]; omega
  have hw2 : IntKind.i64.wrap ((t2 : Int) + (n : Int) + 8) = (t2 : Int) + (n : Int) + 8 := by simp [IntKind.wrap, IntKind.bits, IntKind.signed]; omega
  generalize ((w.alloc (.cells #[.int .u32 (W k.k0), .int .u32 (W k.k1), .int .u32 (W k.k2), .int .u32 (W k.k3), .int .u32 (W k.k4), .int .u32 (W k.k5), .int .u32 (W k.k6), .int .u32 (W k.k7)] 32)).alloc (.cells #[.int .i64 0, .int .i64 0, .bool false, .slice none 0 0] 81)).alloc (.cells #[.int .i64 (y : Int), .int .i64 0, .bool false, .slice none 0 0] 81) = wq at HS2 ⊢
  refine wp_region_till 19 (fun w' => OpS w k [.int .i64 (y : Int), .int .i64 0, .bool false, .slice none 0 0] w') (fun _ => True) (by kernel_rfl) ((OpS.keep HS2.out (Below.refl _ _).drew)) trivial ?_
  show Go_ _ _ _ _ _ _ _ _ _ _ (World.drew _)
  refine Go_.take (i := 0) (oi := ⟨some 83, Op.load 32 (Operand.tmp 4), 32, _, _, none⟩) (v := ?_) rfl (by kernel_rfl) (by kernel_rfl) (by kernel_rfl) rfl (fun _ _ _ h => h) (Or.inl ⟨by rfl, ?_⟩) ?_
  rotate_left; · intro w0 hS; obtain ⟨hH, hZ0, hS4, hW⟩ : OpS w k [.int .i64 (y : Int), .int .i64 0, .bool false, .slice none 0 0] w0 := hS; have h8 := hH.eight; have h4 := hS4.four; go_simp; try with_reducible rfl
  try simp only [Act.put, List.setIfInBounds_toArray, List.set_cons_zero, List.set_cons_succ]
  refine Go_.take (i := 1) (oi := ⟨some 84, Op.move (Operand.tmp 12), 3, _, _, none⟩) (v := ?_) rfl (by kernel_rfl) (by kernel_rfl) (by kernel_rfl) rfl (fun _ _ _ h => h) (Or.inl ⟨by rfl, ?_⟩) ?_
  rotate_left; · intro w0 _; go_simp; try with_reducible rfl
  try simp only [Act.put, List.setIfInBounds_toArray, List.set_cons_zero, List.set_cons_succ]
  refine Go_.take (i := 2) (oi := ⟨some 85, Op.move (Operand.tmp 1), 9, _, _, none⟩) (v := ?_) rfl (by kernel_rfl) (by kernel_rfl) (by kernel_rfl) rfl (fun _ _ _ h => h) (Or.inl ⟨by rfl, ?_⟩) ?_
  rotate_left; · intro w0 _; go_simp; try with_reducible rfl
  try simp only [Act.put, List.setIfInBounds_toArray, List.set_cons_zero, List.set_cons_succ]
  refine Go_.take (i := 3) (oi := ⟨some 86, Op.move (Operand.tmp 2), 3, _, _, none⟩) (v := ?_) rfl (by kernel_rfl) (by kernel_rfl) (by kernel_rfl) rfl (fun _ _ _ h => h) (Or.inl ⟨by rfl, ?_⟩) ?_
  rotate_left; · intro w0 _; go_simp; try with_reducible rfl
  try simp only [Act.put, List.setIfInBounds_toArray, List.set_cons_zero, List.set_cons_succ]
  refine Go_.take (i := 4) (oi := ⟨some 87, Op.move (Operand.tmp 16), 3, _, _, none⟩) (v := ?_) rfl (by kernel_rfl) (by kernel_rfl) (by kernel_rfl) rfl (fun _ _ _ h => h) (Or.inl ⟨by rfl, ?_⟩) ?_
  rotate_left; · intro w0 _; go_simp; try with_reducible rfl
  try simp only [Act.put, List.setIfInBounds_toArray, List.set_cons_zero, List.set_cons_succ]
  refine Go_.take (i := 5) (oi := ⟨some 88, Op.move (Operand.tmp 15), 3, _, _, none⟩) (v := ?_) rfl (by kernel_rfl) (by kernel_rfl) (by kernel_rfl) rfl (fun _ _ _ h => h) (Or.inl ⟨by rfl, ?_⟩) ?_
  rotate_left; · intro w0 _; go_simp; try with_reducible rfl
  try simp only [Act.put, List.setIfInBounds_toArray, List.set_cons_zero, List.set_cons_succ]
  refine Go_.take (i := 6) (oi := ⟨some 89, Op.binOp BinOp.add 3 (Operand.tmp 87) (Operand.tmp 88) 3, 3, _, _, none⟩) (v := ?_) rfl (by kernel_rfl) (by kernel_rfl) (by kernel_rfl) rfl (fun _ _ _ h => h) (Or.inl ⟨by rfl, ?_⟩) ?_
  rotate_left; · intro w0 _; go_simp; try with_reducible rfl
  try simp only [Act.put, List.setIfInBounds_toArray, List.set_cons_zero, List.set_cons_succ]
  refine Go_.take (i := 7) (oi := ⟨some 90, Op.slice 9 (Operand.tmp 85) (some (Operand.tmp 86)) (some (Operand.tmp 89)) none, 9, _, _, none⟩) (v := ?_) rfl (by kernel_rfl) (by kernel_rfl) (by kernel_rfl) rfl (fun _ _ _ h => h) (Or.inl ⟨by rfl, ?_⟩) ?_
  rotate_left; · intro w0 _; go_simp; try with_reducible rfl
  try simp only [Act.put, List.setIfInBounds_toArray, List.set_cons_zero, List.set_cons_succ]
  refine Go_.take (i := 9) (oi := ⟨some 92, Op.move (Operand.tmp 1), 9, _, _, none⟩) (v := ?_) rfl (by kernel_rfl) (by kernel_rfl) (by kernel_rfl) rfl (fun _ _ _ h => h) (Or.inl ⟨by rfl, ?_⟩) ?_
  rotate_left; · intro w0 _; go_simp; try with_reducible rfl
  try simp only [Act.put, List.setIfInBounds_toArray, List.set_cons_zero, List.set_cons_succ]
  refine Go_.take (i := 10) (oi := ⟨some 93, Op.move (Operand.tmp 16), 3, _, _, none⟩) (v := ?_) rfl (by kernel_rfl) (by kernel_rfl) (by kernel_rfl) rfl (fun _ _ _ h => h) (Or.inl ⟨by rfl, ?_⟩) ?_
  rotate_left; · intro w0 _; go_simp; try with_reducible rfl
  try simp only [Act.put, List.setIfInBounds_toArray, List.set_cons_zero, List.set_cons_succ]
  refine Go_.take (i := 11) (oi := ⟨some 94, Op.move (Operand.tmp 15), 3, _, _, none⟩) (v := ?_) rfl (by kernel_rfl) (by kernel_rfl) (by kernel_rfl) rfl (fun _ _ _ h => h) (Or.inl ⟨by rfl, ?_⟩) ?_
  rotate_left; · intro w0 _; go_simp; try with_reducible rfl
  try simp only [Act.put, List.setIfInBounds_toArray, List.set_cons_zero, List.set_cons_succ]
  refine Go_.take (i := 12) (oi := ⟨some 95, Op.binOp BinOp.add 3 (Operand.tmp 93) (Operand.tmp 94) 3, 3, _, _, none⟩) (v := ?_) rfl (by kernel_rfl) (by kernel_rfl) (by kernel_rfl) rfl (fun _ _ _ h => h) (Or.inl ⟨by rfl, ?_⟩) ?_
  rotate_left; · intro w0 _; go_simp; try with_reducible rfl
  try simp only [Act.put, List.setIfInBounds_toArray, List.set_cons_zero, List.set_cons_succ]
  refine Go_.take (i := 13) (oi := ⟨some 96, Op.move (Operand.tmp 16), 3, _, _, none⟩) (v := ?_) rfl (by kernel_rfl) (by kernel_rfl) (by kernel_rfl) rfl (fun _ _ _ h => h) (Or.inl ⟨by rfl, ?_⟩) ?_
  rotate_left; · intro w0 _; go_simp; try with_reducible rfl
  try simp only [Act.put, List.setIfInBounds_toArray, List.set_cons_zero, List.set_cons_succ]
  refine Go_.take (i := 14) (oi := ⟨some 97, Op.move (Operand.tmp 15), 3, _, _, none⟩) (v := ?_) rfl (by kernel_rfl) (by kernel_rfl) (by kernel_rfl) rfl (fun _ _ _ h => h) (Or.inl ⟨by rfl, ?_⟩) ?_
  rotate_left; · intro w0 _; go_simp; try with_reducible rfl
  try simp only [Act.put, List.setIfInBounds_toArray, List.set_cons_zero, List.set_cons_succ]
  refine Go_.take (i := 15) (oi := ⟨some 98, Op.binOp BinOp.add 3 (Operand.tmp 96) (Operand.tmp 97) 3, 3, _, _, none⟩) (v := ?_) rfl (by kernel_rfl) (by kernel_rfl) (by kernel_rfl) rfl (fun _ _ _ h => h) (Or.inl ⟨by rfl, ?_⟩) ?_
  rotate_left; · intro w0 _; go_simp; try with_reducible rfl
  try simp only [Act.put, List.setIfInBounds_toArray, List.set_cons_zero, List.set_cons_succ]
  refine Go_.take (i := 16) (oi := ⟨some 99, Op.binOp BinOp.add 3 (Operand.tmp 98) (Operand.const (Value.int IntKind.i64 8)) 3, 3, _, _, none⟩) (v := ?_) rfl (by kernel_rfl) (by kernel_rfl) (by kernel_rfl) rfl (fun _ _ _ h => h) (Or.inl ⟨by rfl, ?_⟩) ?_
  rotate_left; · intro w0 _; go_simp; try with_reducible rfl
  try simp only [Act.put, List.setIfInBounds_toArray, List.set_cons_zero, List.set_cons_succ]
  refine Go_.take (i := 17) (oi := ⟨some 100, Op.slice 9 (Operand.tmp 92) (some (Operand.tmp 95)) (some (Operand.tmp 99)) none, 9, _, _, none⟩) (v := ?_) rfl (by kernel_rfl) (by kernel_rfl) (by kernel_rfl) rfl (fun _ _ _ h => h) (Or.inl ⟨by rfl, ?_⟩) ?_
  rotate_left; · intro w0 _; go_simp; try with_reducible rfl
  try simp only [Act.put, List.setIfInBounds_toArray, List.set_cons_zero, List.set_cons_succ]
  refine Go_.step (i := 8) (o := ⟨some 91, Op.call { callee := Callee.value (Operand.func 28), args := #[Operand.tmp 83, Operand.tmp 84, Operand.tmp 90], argTypes := #[32, 3, 9] }, 9, _, _, none⟩) (by kernel_rfl) rfl (fun K hT hK => ?_)
  replace hT := hT.1
  rw [if_pos (by rfl)]
  go_simp
  refine (ro_tag k P T TG hTG hTl _).mono ?_
  rintro e w7 ⟨rfl, hb7⟩
  refine hK.out _ _ (Till.of (OpS.keep hT hb7)) ?_
  clear hT hK K
  refine Go_.take (i := 18) (oi := ⟨some 101, Op.binOp BinOp.neq 9 (Operand.tmp 91) (Operand.tmp 100) 9, 4, _, _, none⟩) (v := ?_) rfl (by kernel_rfl) (by kernel_rfl) (by kernel_rfl) rfl (fun _ _ _ h => h) (Or.inl ⟨by rfl, ?_⟩) ?_
  rotate_left; · intro w0 _; go_simp; try with_reducible rfl
  try simp only [Act.put, List.setIfInBounds_toArray, List.set_cons_zero, List.set_cons_succ]
  refine Go_.doneA (by kernel_rfl) (fun hA => ?_)
  have HP := Lib.hid hA
  have hzf := hA.zh.fourFree
  have hz4 := hA.zh.four
  have hs4 := hA.sh.four
  have hbW := hA.wh
  clear hA
  go_wp2_with fail
  have hzs := (put4v (v0 := .int .i64 0) (v1 := .int .i64 0) (v2 := .bool false) (v3 := .slice none 0 0) HP.out.zh).four
  exact bodyPost_ret (v := .tuple #[zseg, .int .i64 at_, .int .i64 4]) (by simp [results, Try.results60, go_sem, zseg, hzs]) rfl ⟨rfl, below4v hbW (by omega)⟩
set_option maxRecDepth 20000 in
set_option maxHeartbeats 16000000 in
theorem ropen_6 (k : K8) (s : ByteArray) (at_ : Nat) (place : Int) (w : World) (hl : s.size ≤ 100000) (h : at_ < s.size) (y : Nat) (hy : Hid (s[at_].toNat = y)) (hy1 : 1 ≤ y) (hy3 : y ≤ 3) (P t : Nat) (hN : Hid (numL s.data.toList (at_ + 1) 1048576 = (P, t, 0))) (ht : t ≤ s.size) (hat : at_ < t)
    (n t2 : Nat) (hN2 : Hid (numL s.data.toList t 12100 = (n, t2, 0))) (ht2 : t2 ≤ s.size) (htt : t < t2) (hlong : n + 8 ≤ s.size - t2) (hd : Hid (decide (tagL k P ((s.data.toList.drop at_).take (t2 + n - at_)) = (s.data.toList.drop (t2 + n)).take 8) = true)) (hpl : ((P : Int) == place) = false) :
    Calls Try.prog 60 #[.agg #[.int .u32 (W k.k0), .int .u32 (W k.k1), .int .u32 (W k.k2), .int .u32 (W k.k3), .int .u32 (W k.k4), .int .u32 (W k.k5), .int .u32 (W k.k6), .int .u32 (W k.k7)], .string s, .int .i64 at_, .int .i64 place] w fun e w' => e = .returned (.tuple #[zseg, .int .i64 at_, .int .i64 2]) ∧ Below w.heap.size w w' := by
  have hsl : Hid (s.data.toList.length = s.size) := rfl
  obtain ⟨T, hT⟩ : ∃ T, Hid (T = (s.data.toList.drop at_).take (t2 + n - at_)) := ⟨_, rfl⟩
  obtain ⟨U, hU⟩ : ∃ U, Hid (U = (s.data.toList.drop (t2 + n)).take 8) := ⟨_, rfl⟩
  obtain ⟨TG, hTG⟩ : ∃ TG, Hid (tagL k P T = TG) := ⟨_, rfl⟩
  obtain ⟨D, hD⟩ : ∃ D, Hid (D = (s.data.toList.drop t2).take n) := ⟨_, rfl⟩
  have hdd : ((mkStr TG).toList == (mkStr U).toList) = true := by
    rw [mkStr_toList, mkStr_toList, ← hTG.out, hT.out, hU.out, ← hd.out, Bool.eq_iff_iff, beq_iff_eq, decide_eq_true_iff]
  have hTl : T.length ≤ 100000 := by rw [hT.out, List.length_take, List.length_drop, hsl.out]; omega
  have hDl : D.length = n := by rw [hD.out, List.length_take, List.length_drop, hsl.out]; omega
  have hxT : s.extract at_ (t2 + n) = mkStr T := by rw [mkStr_cut s at_ (t2 + n) _ rfl, hT.out]
  have hxU : s.extract (t2 + n) (t2 + n + 8) = mkStr U := by rw [mkStr_cut s (t2 + n) (t2 + n + 8) 8 (by omega), hU.out]
  have hxD : s.extract t2 (t2 + n) = mkStr D := by rw [mkStr_cut s t2 (t2 + n) n (by omega), hD.out]
  have hb0 : Below w.heap.size w ((w.alloc (.cells #[.int .u32 (W k.k0), .int .u32 (W k.k1), .int .u32 (W k.k2), .int .u32 (W k.k3), .int .u32 (W k.k4), .int .u32 (W k.k5), .int .u32 (W k.k6), .int .u32 (W k.k7)] 32)).alloc (.cells #[.int .i64 0, .int .i64 0, .bool false, .slice none 0 0] 81)) := ((Below.refl _ _).alloc (Nat.le_refl _) _).alloc (by simp) _
  have hb2 := hb0.alloc (by simp; omega) (.cells #[.int .i64 (y : Int), .int .i64 0, .bool false, .slice none 0 0] 81)
  have hk2 := ((Holds.newAt w 32 [.int .u32 (W k.k0), .int .u32 (W k.k1), .int .u32 (W k.k2), .int .u32 (W k.k3), .int .u32 (W k.k4), .int .u32 (W k.k5), .int .u32 (W k.k6), .int .u32 (W k.k7)] (n := w.heap.size) rfl).alloc (.cells #[.int .i64 0, .int .i64 0, .bool false, .slice none 0 0] 81)).alloc (.cells #[.int .i64 (y : Int), .int .i64 0, .bool false, .slice none 0 0] 81)
  have hz2 := (Holds.newAt (w.alloc (.cells #[.int .u32 (W k.k0), .int .u32 (W k.k1), .int .u32 (W k.k2), .int .u32 (W k.k3), .int .u32 (W k.k4), .int .u32 (W k.k5), .int .u32 (W k.k6), .int .u32 (W k.k7)] 32)) 81 [.int .i64 0, .int .i64 0, .bool false, .slice none 0 0] (n := w.heap.size + 1) (by simp)).alloc (.cells #[.int .i64 (y : Int), .int .i64 0, .bool false, .slice none 0 0] 81)
  have hs2 := Holds.newAt ((w.alloc (.cells #[.int .u32 (W k.k0), .int .u32 (W k.k1), .int .u32 (W k.k2), .int .u32 (W k.k3), .int .u32 (W k.k4), .int .u32 (W k.k5), .int .u32 (W k.k6), .int .u32 (W k.k7)] 32)).alloc (.cells #[.int .i64 0, .int .i64 0, .bool false, .slice none 0 0] 81)) 81 [.int .i64 (y : Int), .int .i64 0, .bool false, .slice none 0 0] (n := w.heap.size + 1 + 1) (by simp)
  have HS2 : Hid (OpS w k [.int .i64 (y : Int), .int .i64 0, .bool false, .slice none 0 0] _) := Lib.hid ⟨hk2, hz2, hs2, hb2⟩
  clear hk2 hz2 hs2 hb2 hb0 hd
  have hyI : (s[at_].toNat : Int) = (y : Int) := by have := hy.out; omega
  go_enter Try.func60, Try.ntmps60
  go_wp2_with fail
  refine (rnum_any s (at_ + 1) 1048576 _ (by omega) _ (by omega) (by omega) (by omega) P t 0 hN _ rfl).mono ?_
  rintro e w1 ⟨hq, _, rfl⟩
  obtain ⟨rfl, hPm⟩ := hq rfl
  clear hq
  go_wp2_with fail
  refine (rnum_any s t 12100 _ rfl _ ht (by omega) (by omega) n t2 0 hN2 _ rfl).mono ?_
  rintro e w1 ⟨hq, _, rfl⟩
  obtain ⟨rfl, hnm⟩ := hq rfl
  clear hq
  have hcI : ¬ (s.size : Int) < (t2 : Int) + (n : Int) + 8 := by omega
  go_wp2_with fail
  have hn1 : (0 : Int) ≤ (at_ : Int) := by omega
  have hn2 : (at_ : Int) ≤ (t2 : Int) + (n : Int) := by omega
  have hn3 : (t2 : Int) + (n : Int) ≤ (s.size : Int) := by omega
  have hn4 : ((t2 : Int) + (n : Int)).toNat = t2 + n := by omega
  have hn5 : (0 : Int) ≤ (t2 : Int) + (n : Int) := by omega
  have hn6 : (t2 : Int) + (n : Int) ≤ (t2 : Int) + (n : Int) + 8 := by omega
  have hn7 : (t2 : Int) + (n : Int) + 8 ≤ (s.size : Int) := by omega
  have hn8 : ((t2 : Int) + (n : Int) + 8).toNat = t2 + n + 8 := by omega
  have hw1 : IntKind.i64.wrap ((t2 : Int) + (n : Int)) = (t2 : Int) + (n : Int) := by simp [IntKind.wrap, IntKind.bits, IntKind.signed]; omega
  have hw2 : IntKind.i64.wrap ((t2 : Int) + (n : Int) + 8) = (t2 : Int) + (n : Int) + 8 := by simp [IntKind.wrap, IntKind.bits, IntKind.signed]; omega
  generalize ((w.alloc (.cells #[.int .u32 (W k.k0), .int .u32 (W k.k1), .int .u32 (W k.k2), .int .u32 (W k.k3), .int .u32 (W k.k4), .int .u32 (W k.k5), .int .u32 (W k.k6), .int .u32 (W k.k7)] 32)).alloc (.cells #[.int .i64 0, .int .i64 0, .bool false, .slice none 0 0] 81)).alloc (.cells #[.int .i64 (y : Int), .int .i64 0, .bool false, .slice none 0 0] 81) = wq at HS2 ⊢
  refine wp_region_till 19 (fun w' => OpS w k [.int .i64 (y : Int), .int .i64 0, .bool false, .slice none 0 0] w') (fun _ => True) (by kernel_rfl) ((OpS.keep HS2.out (Below.refl _ _).drew)) trivial ?_
  show Go_ _ _ _ _ _ _ _ _ _ _ (World.drew _)
  refine Go_.take (i := 0) (oi := ⟨some 83, Op.load 32 (Operand.tmp 4), 32, _, _, none⟩) (v := ?_) rfl (by kernel_rfl) (by kernel_rfl) (by kernel_rfl) rfl (fun _ _ _ h => h) (Or.inl ⟨by rfl, ?_⟩) ?_
  rotate_left; · intro w0 hS; obtain ⟨hH, hZ0, hS4, hW⟩ : OpS w k [.int .i64 (y : Int), .int .i64 0, .bool false, .slice none 0 0] w0 := hS; have h8 := hH.eight; have h4 := hS4.four; go_simp; try with_reducible rfl
  try simp only [Act.put, List.setIfInBounds_toArray, List.set_cons_zero, List.set_cons_succ]
  refine Go_.take (i := 1) (oi := ⟨some 84, Op.move (Operand.tmp 12), 3, _, _, none⟩) (v := ?_) rfl (by kernel_rfl) (by kernel_rfl) (by kernel_rfl) rfl (fun _ _ _ h => h) (Or.inl ⟨by rfl, ?_⟩) ?_
  rotate_left; · intro w0 _; go_simp; try with_reducible rfl
  try simp only [Act.put, List.setIfInBounds_toArray, List.set_cons_zero, List.set_cons_succ]
  refine Go_.take (i := 2) (oi := ⟨some 85, Op.move (Operand.tmp 1), 9, _, _, none⟩) (v := ?_) rfl (by kernel_rfl) (by kernel_rfl) (by kernel_rfl) rfl (fun _ _ _ h => h) (Or.inl ⟨by rfl, ?_⟩) ?_
  rotate_left; · intro w0 _; go_simp; try with_reducible rfl
  try simp only [Act.put, List.setIfInBounds_toArray, List.set_cons_zero, List.set_cons_succ]
  refine Go_.take (i := 3) (oi := ⟨some 86, Op.move (Operand.tmp 2), 3, _, _, none⟩) (v := ?_) rfl (by kernel_rfl) (by kernel_rfl) (by kernel_rfl) rfl (fun _ _ _ h => h) (Or.inl ⟨by rfl, ?_⟩) ?_
  rotate_left; · intro w0 _; go_simp; try with_reducible rfl
  try simp only [Act.put, List.setIfInBounds_toArray, List.set_cons_zero, List.set_cons_succ]
  refine Go_.take (i := 4) (oi := ⟨some 87, Op.move (Operand.tmp 16), 3, _, _, none⟩) (v := ?_) rfl (by kernel_rfl) (by kernel_rfl) (by kernel_rfl) rfl (fun _ _ _ h => h) (Or.inl ⟨by rfl, ?_⟩) ?_
  rotate_left; · intro w0 _; go_simp; try with_reducible rfl
  try simp only [Act.put, List.setIfInBounds_toArray, List.set_cons_zero, List.set_cons_succ]
  refine Go_.take (i := 5) (oi := ⟨some 88, Op.move (Operand.tmp 15), 3, _, _, none⟩) (v := ?_) rfl (by kernel_rfl) (by kernel_rfl) (by kernel_rfl) rfl (fun _ _ _ h => h) (Or.inl ⟨by rfl, ?_⟩) ?_
  rotate_left; · intro w0 _; go_simp; try with_reducible rfl
  try simp only [Act.put, List.setIfInBounds_toArray, List.set_cons_zero, List.set_cons_succ]
  refine Go_.take (i := 6) (oi := ⟨some 89, Op.binOp BinOp.add 3 (Operand.tmp 87) (Operand.tmp 88) 3, 3, _, _, none⟩) (v := ?_) rfl (by kernel_rfl) (by kernel_rfl) (by kernel_rfl) rfl (fun _ _ _ h => h) (Or.inl ⟨by rfl, ?_⟩) ?_
  rotate_left; · intro w0 _; go_simp; try with_reducible rfl
  try simp only [Act.put, List.setIfInBounds_toArray, List.set_cons_zero, List.set_cons_succ]
  refine Go_.take (i := 7) (oi := ⟨some 90, Op.slice 9 (Operand.tmp 85) (some (Operand.tmp 86)) (some (Operand.tmp 89)) none, 9, _, _, none⟩) (v := ?_) rfl (by kernel_rfl) (by kernel_rfl) (by kernel_rfl) rfl (fun _ _ _ h => h) (Or.inl ⟨by rfl, ?_⟩) ?_
  rotate_left; · intro w0 _; go_simp; try with_reducible rfl
  try simp only [Act.put, List.setIfInBounds_toArray, List.set_cons_zero, List.set_cons_succ]
  refine Go_.take (i := 9) (oi := ⟨some 92, Op.move (Operand.tmp 1), 9, _, _, none⟩) (v := ?_) rfl (by kernel_rfl) (by kernel_rfl) (by kernel_rfl) rfl (fun _ _ _ h => h) (Or.inl ⟨by rfl, ?_⟩) ?_
  rotate_left; · intro w0 _; go_simp; try with_reducible rfl
  try simp only [Act.put, List.setIfInBounds_toArray, List.set_cons_zero, List.set_cons_succ]
  refine Go_.take (i := 10) (oi := ⟨some 93, Op.move (Operand.tmp 16), 3, _, _, none⟩) (v := ?_) rfl (by kernel_rfl) (by kernel_rfl) (by kernel_rfl) rfl (fun _ _ _ h => h) (Or.inl ⟨by rfl, ?_⟩) ?_
  rotate_left; · intro w0 _; go_simp; try with_reducible rfl
  try simp only [Act.put, List.setIfInBounds_toArray, List.set_cons_zero, List.set_cons_succ]
  refine Go_.take (i := 11) (oi := ⟨some 94, Op.move (Operand.tmp 15), 3, _, _, none⟩) (v := ?_) rfl (by kernel_rfl) (by kernel_rfl) (by kernel_rfl) rfl (fun _ _ _ h => h) (Or.inl ⟨by rfl, ?_⟩) ?_
  rotate_left; · intro w0 _; go_simp; try with_reducible rfl
  try simp only [Act.put, List.setIfInBounds_toArray, List.set_cons_zero, List.set_cons_succ]
  refine Go_.take (i := 12) (oi := ⟨some 95, Op.binOp BinOp.add 3 (Operand.tmp 93) (Operand.tmp 94) 3, 3, _, _, none⟩) (v := ?_) rfl (by kernel_rfl) (by kernel_rfl) (by kernel_rfl) rfl (fun _ _ _ h => h) (Or.inl ⟨by rfl, ?_⟩) ?_
  rotate_left; · intro w0 _; go_simp; try with_reducible rfl
  try simp only [Act.put, List.setIfInBounds_toArray, List.set_cons_zero, List.set_cons_succ]
  refine Go_.take (i := 13) (oi := ⟨some 96, Op.move (Operand.tmp 16), 3, _, _, none⟩) (v := ?_) rfl (by kernel_rfl) (by kernel_rfl) (by kernel_rfl) rfl (fun _ _ _ h => h) (Or.inl ⟨by rfl, ?_⟩) ?_
  rotate_left; · intro w0 _; go_simp; try with_reducible rfl
  try simp only [Act.put, List.setIfInBounds_toArray, List.set_cons_zero, List.set_cons_succ]
  refine Go_.take (i := 14) (oi := ⟨some 97, Op.move (Operand.tmp 15), 3, _, _, none⟩) (v := ?_) rfl (by kernel_rfl) (by kernel_rfl) (by kernel_rfl) rfl (fun _ _ _ h => h) (Or.inl ⟨by rfl, ?_⟩) ?_
  rotate_left; · intro w0 _; go_simp; try with_reducible rfl
  try simp only [Act.put, List.setIfInBounds_toArray, List.set_cons_zero, List.set_cons_succ]
  refine Go_.take (i := 15) (oi := ⟨some 98, Op.binOp BinOp.add 3 (Operand.tmp 96) (Operand.tmp 97) 3, 3, _, _, none⟩) (v := ?_) rfl (by kernel_rfl) (by kernel_rfl) (by kernel_rfl) rfl (fun _ _ _ h => h) (Or.inl ⟨by rfl, ?_⟩) ?_
  rotate_left; · intro w0 _; go_simp; try with_reducible rfl
  try simp only [Act.put, List.setIfInBounds_toArray, List.set_cons_zero, List.set_cons_succ]
  refine Go_.take (i := 16) (oi := ⟨some 99, Op.binOp BinOp.add 3 (Operand.tmp 98) (Operand.const (Value.int IntKind.i64 8)) 3, 3, _, _, none⟩) (v := ?_) rfl (by kernel_rfl) (by kernel_rfl) (by kernel_rfl) rfl (fun _ _ _ h => h) (Or.inl ⟨by rfl, ?_⟩) ?_
  rotate_left; · intro w0 _; go_simp; try with_reducible rfl
  try simp only [Act.put, List.setIfInBounds_toArray, List.set_cons_zero, List.set_cons_succ]
  refine Go_.take (i := 17) (oi := ⟨some 100, Op.slice 9 (Operand.tmp 92) (some (Operand.tmp 95)) (some (Operand.tmp 99)) none, 9, _, _, none⟩) (v := ?_) rfl (by kernel_rfl) (by kernel_rfl) (by kernel_rfl) rfl (fun _ _ _ h => h) (Or.inl ⟨by rfl, ?_⟩) ?_
  rotate_left; · intro w0 _; go_simp; try with_reducible rfl
  try simp only [Act.put, List.setIfInBounds_toArray, List.set_cons_zero, List.set_cons_succ]
  refine Go_.step (i := 8) (o := ⟨some 91, Op.call { callee := Callee.value (Operand.func 28), args := #[Operand.tmp 83, Operand.tmp 84, Operand.tmp 90], argTypes := #[32, 3, 9] }, 9, _, _, none⟩) (by kernel_rfl) rfl (fun K hT hK => ?_)
  replace hT := hT.1
  rw [if_pos (by rfl)]
  go_simp
  refine (ro_tag k P T TG hTG hTl _).mono ?_
  rintro e w7 ⟨rfl, hb7⟩
  refine hK.out _ _ (Till.of (OpS.keep hT hb7)) ?_
  clear hT hK K
  refine Go_.take (i := 18) (oi := ⟨some 101, Op.binOp BinOp.neq 9 (Operand.tmp 91) (Operand.tmp 100) 9, 4, _, _, none⟩) (v := ?_) rfl (by kernel_rfl) (by kernel_rfl) (by kernel_rfl) rfl (fun _ _ _ h => h) (Or.inl ⟨by rfl, ?_⟩) ?_
  rotate_left; · intro w0 _; go_simp; try with_reducible rfl
  try simp only [Act.put, List.setIfInBounds_toArray, List.set_cons_zero, List.set_cons_succ]
  refine Go_.doneA (by kernel_rfl) (fun hA => ?_)
  have HP := Lib.hid hA
  have hzf := hA.zh.fourFree
  have hz4 := hA.zh.four
  have hs4 := hA.sh.four
  have hbW := hA.wh
  clear hA
  go_wp2_with fail
  have hzs := (put4v (v0 := .int .i64 0) (v1 := .int .i64 0) (v2 := .bool false) (v3 := .slice none 0 0) HP.out.zh).four
  exact bodyPost_ret (v := .tuple #[zseg, .int .i64 at_, .int .i64 2]) (by simp [results, Try.results60, go_sem, zseg, hzs]) rfl ⟨rfl, below4v hbW (by omega)⟩
set_option maxRecDepth 20000 in
set_option maxHeartbeats 16000000 in
theorem ropen_7 (k : K8) (s : ByteArray) (at_ : Nat) (w : World) (hl : s.size ≤ 100000) (h : at_ < s.size) (y : Nat) (hy : Hid (s[at_].toNat = y)) (hy1 : 1 ≤ y) (hy3 : y ≤ 3) (P t : Nat) (hN : Hid (numL s.data.toList (at_ + 1) 1048576 = (P, t, 0))) (ht : t ≤ s.size) (hat : at_ < t)
    (n t2 : Nat) (hN2 : Hid (numL s.data.toList t 12100 = (n, t2, 0))) (ht2 : t2 ≤ s.size) (htt : t < t2) (hlong : n + 8 ≤ s.size - t2) (hd : Hid (decide (tagL k P ((s.data.toList.drop at_).take (t2 + n - at_)) = (s.data.toList.drop (t2 + n)).take 8) = true)) :
    Calls Try.prog 60 #[.agg #[.int .u32 (W k.k0), .int .u32 (W k.k1), .int .u32 (W k.k2), .int .u32 (W k.k3), .int .u32 (W k.k4), .int .u32 (W k.k5), .int .u32 (W k.k6), .int .u32 (W k.k7)], .string s, .int .i64 at_, .int .i64 (P : Int)] w fun e w' => ∃ A' c' X, Hid (X = xorL (streamL k P n) ((s.data.toList.drop t2).take n)) ∧ e = .returned (.tuple #[.agg #[.int .i64 (y : Int), .int .i64 (P : Int), .bool ((y : Int) == 3), .slice A' X.length c'], .int .i64 ((t2 + n + 8 : Nat) : Int), .int .i64 0]) ∧ Bts w' A' X ∧ (∀ b o, A' = some ⟨b, o, none⟩ → w.heap.size ≤ b) ∧ Below w.heap.size w w' := by
  have hsl : Hid (s.data.toList.length = s.size) := rfl
  obtain ⟨T, hT⟩ : ∃ T, Hid (T = (s.data.toList.drop at_).take (t2 + n - at_)) := ⟨_, rfl⟩
  obtain ⟨U, hU⟩ : ∃ U, Hid (U = (s.data.toList.drop (t2 + n)).take 8) := ⟨_, rfl⟩
  obtain ⟨TG, hTG⟩ : ∃ TG, Hid (tagL k P T = TG) := ⟨_, rfl⟩
  obtain ⟨D, hD⟩ : ∃ D, Hid (D = (s.data.toList.drop t2).take n) := ⟨_, rfl⟩
  have hdd : ((mkStr TG).toList == (mkStr U).toList) = true := by
    rw [mkStr_toList, mkStr_toList, ← hTG.out, hT.out, hU.out, ← hd.out, Bool.eq_iff_iff, beq_iff_eq, decide_eq_true_iff]
  have hTl : T.length ≤ 100000 := by rw [hT.out, List.length_take, List.length_drop, hsl.out]; omega
  have hDl : D.length = n := by rw [hD.out, List.length_take, List.length_drop, hsl.out]; omega
  have hxT : s.extract at_ (t2 + n) = mkStr T := by rw [mkStr_cut s at_ (t2 + n) _ rfl, hT.out]
  have hxU : s.extract (t2 + n) (t2 + n + 8) = mkStr U := by rw [mkStr_cut s (t2 + n) (t2 + n + 8) 8 (by omega), hU.out]
  have hxD : s.extract t2 (t2 + n) = mkStr D := by rw [mkStr_cut s t2 (t2 + n) n (by omega), hD.out]
  have hb0 : Below w.heap.size w ((w.alloc (.cells #[.int .u32 (W k.k0), .int .u32 (W k.k1), .int .u32 (W k.k2), .int .u32 (W k.k3), .int .u32 (W k.k4), .int .u32 (W k.k5), .int .u32 (W k.k6), .int .u32 (W k.k7)] 32)).alloc (.cells #[.int .i64 0, .int .i64 0, .bool false, .slice none 0 0] 81)) := ((Below.refl _ _).alloc (Nat.le_refl _) _).alloc (by simp) _
  have hb2 := hb0.alloc (by simp; omega) (.cells #[.int .i64 (y : Int), .int .i64 0, .bool false, .slice none 0 0] 81)
  have hk2 := ((Holds.newAt w 32 [.int .u32 (W k.k0), .int .u32 (W k.k1), .int .u32 (W k.k2), .int .u32 (W k.k3), .int .u32 (W k.k4), .int .u32 (W k.k5), .int .u32 (W k.k6), .int .u32 (W k.k7)] (n := w.heap.size) rfl).alloc (.cells #[.int .i64 0, .int .i64 0, .bool false, .slice none 0 0] 81)).alloc (.cells #[.int .i64 (y : Int), .int .i64 0, .bool false, .slice none 0 0] 81)
  have hz2 := (Holds.newAt (w.alloc (.cells #[.int .u32 (W k.k0), .int .u32 (W k.k1), .int .u32 (W k.k2), .int .u32 (W k.k3), .int .u32 (W k.k4), .int .u32 (W k.k5), .int .u32 (W k.k6), .int .u32 (W k.k7)] 32)) 81 [.int .i64 0, .int .i64 0, .bool false, .slice none 0 0] (n := w.heap.size + 1) (by simp)).alloc (.cells #[.int .i64 (y : Int), .int .i64 0, .bool false, .slice none 0 0] 81)
  have hs2 := Holds.newAt ((w.alloc (.cells #[.int .u32 (W k.k0), .int .u32 (W k.k1), .int .u32 (W k.k2), .int .u32 (W k.k3), .int .u32 (W k.k4), .int .u32 (W k.k5), .int .u32 (W k.k6), .int .u32 (W k.k7)] 32)).alloc (.cells #[.int .i64 0, .int .i64 0, .bool false, .slice none 0 0] 81)) 81 [.int .i64 (y : Int), .int .i64 0, .bool false, .slice none 0 0] (n := w.heap.size + 1 + 1) (by simp)
  have HS2 : Hid (OpS w k [.int .i64 (y : Int), .int .i64 0, .bool false, .slice none 0 0] _) := Lib.hid ⟨hk2, hz2, hs2, hb2⟩
  clear hk2 hz2 hs2 hb2 hb0 hd
  have hyI : (s[at_].toNat : Int) = (y : Int) := by have := hy.out; omega
  go_enter Try.func60, Try.ntmps60
  go_wp2_with fail
  refine (rnum_any s (at_ + 1) 1048576 _ (by omega) _ (by omega) (by omega) (by omega) P t 0 hN _ rfl).mono ?_
  rintro e w1 ⟨hq, _, rfl⟩
  obtain ⟨rfl, hPm⟩ := hq rfl
  clear hq
  go_wp2_with fail
  refine (rnum_any s t 12100 _ rfl _ ht (by omega) (by omega) n t2 0 hN2 _ rfl).mono ?_
  rintro e w1 ⟨hq, _, rfl⟩
  obtain ⟨rfl, hnm⟩ := hq rfl
  clear hq
  have hcI : ¬ (s.size : Int) < (t2 : Int) + (n : Int) + 8 := by omega
  go_wp2_with fail
  have hn1 : (0 : Int) ≤ (at_ : Int) := by omega
  have hn2 : (at_ : Int) ≤ (t2 : Int) + (n : Int) := by omega
  have hn3 : (t2 : Int) + (n : Int) ≤ (s.size : Int) := by omega
  have hn4 : ((t2 : Int) + (n : Int)).toNat = t2 + n := by omega
  have hn5 : (0 : Int) ≤ (t2 : Int) + (n : Int) := by omega
  have hn6 : (t2 : Int) + (n : Int) ≤ (t2 : Int) + (n : Int) + 8 := by omega
  have hn7 : (t2 : Int) + (n : Int) + 8 ≤ (s.size : Int) := by omega
  have hn8 : ((t2 : Int) + (n : Int) + 8).toNat = t2 + n + 8 := by omega
  have hw1 : IntKind.i64.wrap ((t2 : Int) + (n : Int)) = (t2 : Int) + (n : Int) := by simp [IntKind.wrap, IntKind.bits, IntKind.signed]; omega
  have hw2 : IntKind.i64.wrap ((t2 : Int) + (n : Int) + 8) = (t2 : Int) + (n : Int) + 8 := by simp [IntKind.wrap, IntKind.bits, IntKind.signed]; omega
  generalize ((w.alloc (.cells #[.int .u32 (W k.k0), .int .u32 (W k.k1), .int .u32 (W k.k2), .int .u32 (W k.k3), .int .u32 (W k.k4), .int .u32 (W k.k5), .int .u32 (W k.k6), .int .u32 (W k.k7)] 32)).alloc (.cells #[.int .i64 0, .int .i64 0, .bool false, .slice none 0 0] 81)).alloc (.cells #[.int .i64 (y : Int), .int .i64 0, .bool false, .slice none 0 0] 81) = wq at HS2 ⊢
  refine wp_region_till 19 (fun w' => OpS w k [.int .i64 (y : Int), .int .i64 0, .bool false, .slice none 0 0] w') (fun _ => True) (by kernel_rfl) ((OpS.keep HS2.out (Below.refl _ _).drew)) trivial ?_
  show Go_ _ _ _ _ _ _ _ _ _ _ (World.drew _)
  refine Go_.take (i := 0) (oi := ⟨some 83, Op.load 32 (Operand.tmp 4), 32, _, _, none⟩) (v := ?_) rfl (by kernel_rfl) (by kernel_rfl) (by kernel_rfl) rfl (fun _ _ _ h => h) (Or.inl ⟨by rfl, ?_⟩) ?_
  rotate_left; · intro w0 hS; obtain ⟨hH, hZ0, hS4, hW⟩ : OpS w k [.int .i64 (y : Int), .int .i64 0, .bool false, .slice none 0 0] w0 := hS; have h8 := hH.eight; have h4 := hS4.four; go_simp; try with_reducible rfl
  try simp only [Act.put, List.setIfInBounds_toArray, List.set_cons_zero, List.set_cons_succ]
  refine Go_.take (i := 1) (oi := ⟨some 84, Op.move (Operand.tmp 12), 3, _, _, none⟩) (v := ?_) rfl (by kernel_rfl) (by kernel_rfl) (by kernel_rfl) rfl (fun _ _ _ h => h) (Or.inl ⟨by rfl, ?_⟩) ?_
  rotate_left; · intro w0 _; go_simp; try with_reducible rfl
  try simp only [Act.put, List.setIfInBounds_toArray, List.set_cons_zero, List.set_cons_succ]
  refine Go_.take (i := 2) (oi := ⟨some 85, Op.move (Operand.tmp 1), 9, _, _, none⟩) (v := ?_) rfl (by kernel_rfl) (by kernel_rfl) (by kernel_rfl) rfl (fun _ _ _ h => h) (Or.inl ⟨by rfl, ?_⟩) ?_
  rotate_left; · intro w0 _; go_simp; try with_reducible rfl
  try simp only [Act.put, List.setIfInBounds_toArray, List.set_cons_zero, List.set_cons_succ]
  refine Go_.take (i := 3) (oi := ⟨some 86, Op.move (Operand.tmp 2), 3, _, _, none⟩) (v := ?_) rfl (by kernel_rfl) (by kernel_rfl) (by kernel_rfl) rfl (fun _ _ _ h => h) (Or.inl ⟨by rfl, ?_⟩) ?_
  rotate_left; · intro w0 _; go_simp; try with_reducible rfl
  try simp only [Act.put, List.setIfInBounds_toArray, List.set_cons_zero, List.set_cons_succ]
  refine Go_.take (i := 4) (oi := ⟨some 87, Op.move (Operand.tmp 16), 3, _, _, none⟩) (v := ?_) rfl (by kernel_rfl) (by kernel_rfl) (by kernel_rfl) rfl (fun _ _ _ h => h) (Or.inl ⟨by rfl, ?_⟩) ?_
  rotate_left; · intro w0 _; go_simp; try with_reducible rfl
  try simp only [Act.put, List.setIfInBounds_toArray, List.set_cons_zero, List.set_cons_succ]
  refine Go_.take (i := 5) (oi := ⟨some 88, Op.move (Operand.tmp 15), 3, _, _, none⟩) (v := ?_) rfl (by kernel_rfl) (by kernel_rfl) (by kernel_rfl) rfl (fun _ _ _ h => h) (Or.inl ⟨by rfl, ?_⟩) ?_
  rotate_left; · intro w0 _; go_simp; try with_reducible rfl
  try simp only [Act.put, List.setIfInBounds_toArray, List.set_cons_zero, List.set_cons_succ]
  refine Go_.take (i := 6) (oi := ⟨some 89, Op.binOp BinOp.add 3 (Operand.tmp 87) (Operand.tmp 88) 3, 3, _, _, none⟩) (v := ?_) rfl (by kernel_rfl) (by kernel_rfl) (by kernel_rfl) rfl (fun _ _ _ h => h) (Or.inl ⟨by rfl, ?_⟩) ?_
  rotate_left; · intro w0 _; go_simp; try with_reducible rfl
  try simp only [Act.put, List.setIfInBounds_toArray, List.set_cons_zero, List.set_cons_succ]
  refine Go_.take (i := 7) (oi := ⟨some 90, Op.slice 9 (Operand.tmp 85) (some (Operand.tmp 86)) (some (Operand.tmp 89)) none, 9, _, _, none⟩) (v := ?_) rfl (by kernel_rfl) (by kernel_rfl) (by kernel_rfl) rfl (fun _ _ _ h => h) (Or.inl ⟨by rfl, ?_⟩) ?_
  rotate_left; · intro w0 _; go_simp; try with_reducible rfl
  try simp only [Act.put, List.setIfInBounds_toArray, List.set_cons_zero, List.set_cons_succ]
  refine Go_.take (i := 9) (oi := ⟨some 92, Op.move (Operand.tmp 1), 9, _, _, none⟩) (v := ?_) rfl (by kernel_rfl) (by kernel_rfl) (by kernel_rfl) rfl (fun _ _ _ h => h) (Or.inl ⟨by rfl, ?_⟩) ?_
  rotate_left; · intro w0 _; go_simp; try with_reducible rfl
  try simp only [Act.put, List.setIfInBounds_toArray, List.set_cons_zero, List.set_cons_succ]
  refine Go_.take (i := 10) (oi := ⟨some 93, Op.move (Operand.tmp 16), 3, _, _, none⟩) (v := ?_) rfl (by kernel_rfl) (by kernel_rfl) (by kernel_rfl) rfl (fun _ _ _ h => h) (Or.inl ⟨by rfl, ?_⟩) ?_
  rotate_left; · intro w0 _; go_simp; try with_reducible rfl
  try simp only [Act.put, List.setIfInBounds_toArray, List.set_cons_zero, List.set_cons_succ]
  refine Go_.take (i := 11) (oi := ⟨some 94, Op.move (Operand.tmp 15), 3, _, _, none⟩) (v := ?_) rfl (by kernel_rfl) (by kernel_rfl) (by kernel_rfl) rfl (fun _ _ _ h => h) (Or.inl ⟨by rfl, ?_⟩) ?_
  rotate_left; · intro w0 _; go_simp; try with_reducible rfl
  try simp only [Act.put, List.setIfInBounds_toArray, List.set_cons_zero, List.set_cons_succ]
  refine Go_.take (i := 12) (oi := ⟨some 95, Op.binOp BinOp.add 3 (Operand.tmp 93) (Operand.tmp 94) 3, 3, _, _, none⟩) (v := ?_) rfl (by kernel_rfl) (by kernel_rfl) (by kernel_rfl) rfl (fun _ _ _ h => h) (Or.inl ⟨by rfl, ?_⟩) ?_
  rotate_left; · intro w0 _; go_simp; try with_reducible rfl
  try simp only [Act.put, List.setIfInBounds_toArray, List.set_cons_zero, List.set_cons_succ]
  refine Go_.take (i := 13) (oi := ⟨some 96, Op.move (Operand.tmp 16), 3, _, _, none⟩) (v := ?_) rfl (by kernel_rfl) (by kernel_rfl) (by kernel_rfl) rfl (fun _ _ _ h => h) (Or.inl ⟨by rfl, ?_⟩) ?_
  rotate_left; · intro w0 _; go_simp; try with_reducible rfl
  try simp only [Act.put, List.setIfInBounds_toArray, List.set_cons_zero, List.set_cons_succ]
  refine Go_.take (i := 14) (oi := ⟨some 97, Op.move (Operand.tmp 15), 3, _, _, none⟩) (v := ?_) rfl (by kernel_rfl) (by kernel_rfl) (by kernel_rfl) rfl (fun _ _ _ h => h) (Or.inl ⟨by rfl, ?_⟩) ?_
  rotate_left; · intro w0 _; go_simp; try with_reducible rfl
  try simp only [Act.put, List.setIfInBounds_toArray, List.set_cons_zero, List.set_cons_succ]
  refine Go_.take (i := 15) (oi := ⟨some 98, Op.binOp BinOp.add 3 (Operand.tmp 96) (Operand.tmp 97) 3, 3, _, _, none⟩) (v := ?_) rfl (by kernel_rfl) (by kernel_rfl) (by kernel_rfl) rfl (fun _ _ _ h => h) (Or.inl ⟨by rfl, ?_⟩) ?_
  rotate_left; · intro w0 _; go_simp; try with_reducible rfl
  try simp only [Act.put, List.setIfInBounds_toArray, List.set_cons_zero, List.set_cons_succ]
  refine Go_.take (i := 16) (oi := ⟨some 99, Op.binOp BinOp.add 3 (Operand.tmp 98) (Operand.const (Value.int IntKind.i64 8)) 3, 3, _, _, none⟩) (v := ?_) rfl (by kernel_rfl) (by kernel_rfl) (by kernel_rfl) rfl (fun _ _ _ h => h) (Or.inl ⟨by rfl, ?_⟩) ?_
  rotate_left; · intro w0 _; go_simp; try with_reducible rfl
  try simp only [Act.put, List.setIfInBounds_toArray, List.set_cons_zero, List.set_cons_succ]
  refine Go_.take (i := 17) (oi := ⟨some 100, Op.slice 9 (Operand.tmp 92) (some (Operand.tmp 95)) (some (Operand.tmp 99)) none, 9, _, _, none⟩) (v := ?_) rfl (by kernel_rfl) (by kernel_rfl) (by kernel_rfl) rfl (fun _ _ _ h => h) (Or.inl ⟨by rfl, ?_⟩) ?_
  rotate_left; · intro w0 _; go_simp; try with_reducible rfl
  try simp only [Act.put, List.setIfInBounds_toArray, List.set_cons_zero, List.set_cons_succ]
  refine Go_.step (i := 8) (o := ⟨some 91, Op.call { callee := Callee.value (Operand.func 28), args := #[Operand.tmp 83, Operand.tmp 84, Operand.tmp 90], argTypes := #[32, 3, 9] }, 9, _, _, none⟩) (by kernel_rfl) rfl (fun K hT hK => ?_)
  replace hT := hT.1
  rw [if_pos (by rfl)]
  go_simp
  refine (ro_tag k P T TG hTG hTl _).mono ?_
  rintro e w7 ⟨rfl, hb7⟩
  refine hK.out _ _ (Till.of (OpS.keep hT hb7)) ?_
  clear hT hK K
  refine Go_.take (i := 18) (oi := ⟨some 101, Op.binOp BinOp.neq 9 (Operand.tmp 91) (Operand.tmp 100) 9, 4, _, _, none⟩) (v := ?_) rfl (by kernel_rfl) (by kernel_rfl) (by kernel_rfl) rfl (fun _ _ _ h => h) (Or.inl ⟨by rfl, ?_⟩) ?_
  rotate_left; · intro w0 _; go_simp; try with_reducible rfl
  try simp only [Act.put, List.setIfInBounds_toArray, List.set_cons_zero, List.set_cons_succ]
  refine Go_.doneA (by kernel_rfl) (fun hA => ?_)
  have HP := Lib.hid hA
  have hzf := hA.zh.fourFree
  have hz4 := hA.zh.four
  have hs4 := hA.sh.four
  have hbW := hA.wh
  clear hA
  clear hzf hz4 hs4 hdd hxT hxU
  have hs4 := HP.out.sh.four
  go_wp2_with fail
  clear hs4
  obtain ⟨X, hX⟩ : ∃ X, Hid (X = xorL (streamL k P n) D) := ⟨_, rfl⟩
  have hCur := HP.out.keep (Below.refl _ _).drew
  have ht0 : (0 : Int) ≤ (t2 : Int) := by omega
  have ht1 : (t2 : Int) ≤ (t2 : Int) + (n : Int) := by omega
  refine wp_region_till 20 (fun w' => ∃ a b c, OpS w k [.int .i64 (y : Int), a, b, c] w') (fun _ => True) (by kernel_rfl) (⟨_, _, _, HP.out.keep (Below.refl _ _).drew⟩) trivial ?_
  show Go_ _ _ _ _ _ _ _ _ _ _ (World.drew _)
  refine Go_.take (i := 0) (oi := ⟨some 109, Op.move (Operand.tmp 12), 3, _, _, none⟩) (v := ?_) rfl (by kernel_rfl) (by kernel_rfl) (by kernel_rfl) rfl (fun _ _ _ h => h) (Or.inl ⟨by rfl, ?_⟩) ?_
  rotate_left; · intro w0 _; go_simp; try with_reducible rfl
  try simp only [Act.put, List.setIfInBounds_toArray, List.set_cons_zero, List.set_cons_succ]
  refine Go_.take (i := 1) (oi := ⟨some 110, Op.fieldAddr 81 (Operand.tmp 11) 0, 0, _, _, none⟩) (v := ?_) rfl (by kernel_rfl) (by kernel_rfl) (by kernel_rfl) rfl (fun _ _ _ h => h) (Or.inl ⟨by rfl, ?_⟩) ?_
  rotate_left; · intro w0 _; go_simp; try with_reducible rfl
  try simp only [Act.put, List.setIfInBounds_toArray, List.set_cons_zero, List.set_cons_succ]
  refine Go_.take (i := 2) (oi := ⟨some 111, Op.load 3 (Operand.tmp 110), 3, _, _, none⟩) (v := ?_) rfl (by kernel_rfl) (by kernel_rfl) (by kernel_rfl) rfl (fun _ _ _ h => h) (Or.inl ⟨by rfl, ?_⟩) ?_
  rotate_left; · intro w0 hS; obtain ⟨va, vb, vc, hH, hZ0, hS4, hW⟩ : ∃ a b c, OpS w k [.int .i64 (y : Int), a, b, c] w0 := hS; have h8 := hH.eight; have h4 := hS4.four; go_simp; try with_reducible rfl
  try simp only [Act.put, List.setIfInBounds_toArray, List.set_cons_zero, List.set_cons_succ]
  refine Go_.take (i := 3) (oi := ⟨some 112, Op.binOp BinOp.eql 3 (Operand.tmp 111) (Operand.const (Value.int IntKind.i64 3)) 3, 4, _, _, none⟩) (v := ?_) rfl (by kernel_rfl) (by kernel_rfl) (by kernel_rfl) rfl (fun _ _ _ h => h) (Or.inl ⟨by rfl, ?_⟩) ?_
  rotate_left; · intro w0 _; go_simp; try with_reducible rfl
  try simp only [Act.put, List.setIfInBounds_toArray, List.set_cons_zero, List.set_cons_succ]
  refine Go_.take (i := 4) (oi := ⟨some 113, Op.load 32 (Operand.tmp 4), 32, _, _, none⟩) (v := ?_) rfl (by kernel_rfl) (by kernel_rfl) (by kernel_rfl) rfl (fun _ _ _ h => h) (Or.inl ⟨by rfl, ?_⟩) ?_
  rotate_left; · intro w0 hS; obtain ⟨va, vb, vc, hH, hZ0, hS4, hW⟩ : ∃ a b c, OpS w k [.int .i64 (y : Int), a, b, c] w0 := hS; have h8 := hH.eight; have h4 := hS4.four; go_simp; try with_reducible rfl
  try simp only [Act.put, List.setIfInBounds_toArray, List.set_cons_zero, List.set_cons_succ]
  refine Go_.take (i := 5) (oi := ⟨some 114, Op.move (Operand.tmp 12), 3, _, _, none⟩) (v := ?_) rfl (by kernel_rfl) (by kernel_rfl) (by kernel_rfl) rfl (fun _ _ _ h => h) (Or.inl ⟨by rfl, ?_⟩) ?_
  rotate_left; · intro w0 _; go_simp; try with_reducible rfl
  try simp only [Act.put, List.setIfInBounds_toArray, List.set_cons_zero, List.set_cons_succ]
  refine Go_.take (i := 6) (oi := ⟨some 115, Op.move (Operand.tmp 1), 9, _, _, none⟩) (v := ?_) rfl (by kernel_rfl) (by kernel_rfl) (by kernel_rfl) rfl (fun _ _ _ h => h) (Or.inl ⟨by rfl, ?_⟩) ?_
  rotate_left; · intro w0 _; go_simp; try with_reducible rfl
  try simp only [Act.put, List.setIfInBounds_toArray, List.set_cons_zero, List.set_cons_succ]
  refine Go_.take (i := 7) (oi := ⟨some 116, Op.move (Operand.tmp 16), 3, _, _, none⟩) (v := ?_) rfl (by kernel_rfl) (by kernel_rfl) (by kernel_rfl) rfl (fun _ _ _ h => h) (Or.inl ⟨by rfl, ?_⟩) ?_
  rotate_left; · intro w0 _; go_simp; try with_reducible rfl
  try simp only [Act.put, List.setIfInBounds_toArray, List.set_cons_zero, List.set_cons_succ]
  refine Go_.take (i := 8) (oi := ⟨some 117, Op.move (Operand.tmp 16), 3, _, _, none⟩) (v := ?_) rfl (by kernel_rfl) (by kernel_rfl) (by kernel_rfl) rfl (fun _ _ _ h => h) (Or.inl ⟨by rfl, ?_⟩) ?_
  rotate_left; · intro w0 _; go_simp; try with_reducible rfl
  try simp only [Act.put, List.setIfInBounds_toArray, List.set_cons_zero, List.set_cons_succ]
  refine Go_.take (i := 9) (oi := ⟨some 118, Op.move (Operand.tmp 15), 3, _, _, none⟩) (v := ?_) rfl (by kernel_rfl) (by kernel_rfl) (by kernel_rfl) rfl (fun _ _ _ h => h) (Or.inl ⟨by rfl, ?_⟩) ?_
  rotate_left; · intro w0 _; go_simp; try with_reducible rfl
  try simp only [Act.put, List.setIfInBounds_toArray, List.set_cons_zero, List.set_cons_succ]
  refine Go_.take (i := 10) (oi := ⟨some 119, Op.binOp BinOp.add 3 (Operand.tmp 117) (Operand.tmp 118) 3, 3, _, _, none⟩) (v := ?_) rfl (by kernel_rfl) (by kernel_rfl) (by kernel_rfl) rfl (fun _ _ _ h => h) (Or.inl ⟨by rfl, ?_⟩) ?_
  rotate_left; · intro w0 _; go_simp; try with_reducible rfl
  try simp only [Act.put, List.setIfInBounds_toArray, List.set_cons_zero, List.set_cons_succ]
  refine Go_.take (i := 11) (oi := ⟨some 120, Op.slice 9 (Operand.tmp 115) (some (Operand.tmp 116)) (some (Operand.tmp 119)) none, 9, _, _, none⟩) (v := ?_) rfl (by kernel_rfl) (by kernel_rfl) (by kernel_rfl) rfl (fun _ _ _ h => h) (Or.inl ⟨by rfl, ?_⟩) ?_
  rotate_left; · intro w0 _; go_simp; try with_reducible rfl
  try simp only [Act.put, List.setIfInBounds_toArray, List.set_cons_zero, List.set_cons_succ]
  refine Go_.take (i := 14) (oi := ⟨some 123, Op.fieldAddr 81 (Operand.tmp 11) 1, 0, _, _, none⟩) (v := ?_) rfl (by kernel_rfl) (by kernel_rfl) (by kernel_rfl) rfl (fun _ _ _ h => h) (Or.inl ⟨by rfl, ?_⟩) ?_
  rotate_left; · intro w0 _; go_simp; try with_reducible rfl
  try simp only [Act.put, List.setIfInBounds_toArray, List.set_cons_zero, List.set_cons_succ]
  refine Go_.step (i := 12) (o := ⟨some 121, Op.call { callee := Callee.value (Operand.func 49), args := #[Operand.tmp 113, Operand.tmp 114, Operand.tmp 120], argTypes := #[32, 3, 9] }, 9, _, _, none⟩) (by kernel_rfl) rfl (fun K hT hK => ?_)
  replace hT := hT.1
  rw [if_pos (by rfl)]
  go_simp
  refine (ro_xor k P n D X hDl hX (by omega) _).mono ?_
  rintro e w12 ⟨rfl, hb12⟩
  replace hCur := hCur.keep hb12
  refine hK.out _ _ (Till.of ⟨_, _, _, hCur⟩) ?_
  clear hT hK K
  refine Go_.step2 (i := 13) (j := 15) (oi := ⟨some 122, Op.convert 9 24 (Operand.tmp 121), 24, _, _, none⟩) (oj := ⟨none, Op.store 3 (Operand.tmp 123) (Operand.tmp 109), 0, _, _, none⟩) (by kernel_rfl) rfl rfl (fun K hT hK => ?_) (fun K hT hK => ?_)
  · replace hT := hT.1
    rw [if_pos (by rfl)]
    have hlt13 := hCur.sh.lt
    refine wp_btsN (l := X) (.tmp 121) rfl (by rfl) ?_
    intro c13 g13 w13 hg13 hBX hb13
    have hne13 : ∀ b o, (some (⟨g13, 0, none⟩ : Addr)) = some ⟨b, o, none⟩ → b ≠ w.heap.size + 1 + 1 := fun b o e => by injection e with e; injection e with e1 _; omega
    replace hCur := hCur.keep hb13
    refine hK.out _ _ (Till.of ⟨_, _, _, hCur⟩) ?_
    clear hT hK K
    refine Go_.step (i := 15) (o := ⟨none, Op.store 3 (Operand.tmp 123) (Operand.tmp 109), 0, _, _, none⟩) (by kernel_rfl) rfl (fun K hT hK => ?_)
    replace hT := hT.1
    rw [if_pos (by rfl)]
    have hf := hCur.sh.fourFree
    have hc := hCur.sh.four
    go_simp
    clear hf hc
    replace hCur := hCur.put 1 (.int .i64 (P : Int))
    try replace hBX := bts_far (i := 1) (v := (.int .i64 (P : Int))) hBX hne13
    refine hK.out _ _ (Till.of ⟨_, _, _, hCur⟩) ?_
    clear hT hK K
    refine Go_.take (i := 16) (oi := ⟨some 124, Op.fieldAddr 81 (Operand.tmp 11) 2, 0, _, _, none⟩) (v := ?_) rfl (by kernel_rfl) (by kernel_rfl) (by kernel_rfl) rfl (fun _ _ _ h => h) (Or.inl ⟨by rfl, ?_⟩) ?_
    rotate_left; · intro w0 _; go_simp; try with_reducible rfl
    try simp only [Act.put, List.setIfInBounds_toArray, List.set_cons_zero, List.set_cons_succ]
    refine Go_.step (i := 17) (o := ⟨none, Op.store 4 (Operand.tmp 124) (Operand.tmp 112), 0, _, _, none⟩) (by kernel_rfl) rfl (fun K hT hK => ?_)
    replace hT := hT.1
    rw [if_pos (by rfl)]
    have hf := hCur.sh.fourFree
    have hc := hCur.sh.four
    go_simp
    clear hf hc
    replace hCur := hCur.put 2 (.bool ((y : Int) == 3))
    try replace hBX := bts_far (i := 2) (v := (.bool ((y : Int) == 3))) hBX hne13
    refine hK.out _ _ (Till.of ⟨_, _, _, hCur⟩) ?_
    clear hT hK K
    refine Go_.take (i := 18) (oi := ⟨some 125, Op.fieldAddr 81 (Operand.tmp 11) 3, 0, _, _, none⟩) (v := ?_) rfl (by kernel_rfl) (by kernel_rfl) (by kernel_rfl) rfl (fun _ _ _ h => h) (Or.inl ⟨by rfl, ?_⟩) ?_
    rotate_left; · intro w0 _; go_simp; try with_reducible rfl
    try simp only [Act.put, List.setIfInBounds_toArray, List.set_cons_zero, List.set_cons_succ]
    refine Go_.step (i := 19) (o := ⟨none, Op.store 24 (Operand.tmp 125) (Operand.tmp 122), 0, _, _, none⟩) (by kernel_rfl) rfl (fun K hT hK => ?_)
    replace hT := hT.1
    rw [if_pos (by rfl)]
    have hf := hCur.sh.fourFree
    have hc := hCur.sh.four
    go_simp
    clear hf hc
    replace hCur := hCur.put 3 (.slice (some ⟨g13, 0, none⟩) X.length c13)
    try replace hBX := bts_far (i := 3) (v := (.slice (some ⟨g13, 0, none⟩) X.length c13)) hBX hne13
    refine hK.out _ _ (Till.of ⟨_, _, _, hCur⟩) ?_
    clear hT hK K
    refine Go_.doneA (by kernel_rfl) (fun _ => ?_)
    refine two_worlds (A := fun w' => OpS w k [.int .i64 (y : Int), .int .i64 (P : Int), .bool ((y : Int) == 3), .slice (some ⟨g13, 0, none⟩) X.length c13] w') (B := fun w' => Bts w' (some ⟨g13, 0, none⟩) X) hCur hBX (fun wz hPz hOz => ?_)
    have hzf := hPz.zh.fourFree
    have hz4 := hPz.zh.four
    have hs4 := hPz.sh.four
    have hbW := hPz.wh
    have HPz := Lib.hid hPz
    have HOz := Lib.hid hOz
    have hgne : ∀ b o, (some (⟨g13, 0, none⟩ : Addr)) = some ⟨b, o, none⟩ → b ≠ w.heap.size + 1 := fun b o e => by injection e with e; injection e with e1 _; omega
    clear hCur hBX hPz hOz
    go_wp2_with fail
    have hzs := (put4v (v0 := .int .i64 (y : Int)) (v1 := .int .i64 (P : Int)) (v2 := .bool ((y : Int) == 3)) (v3 := .slice (some ⟨g13, 0, none⟩) X.length c13) HPz.out.zh).four
    exact bodyPost_ret (v := .tuple #[.agg #[.int .i64 (y : Int), .int .i64 (P : Int), .bool ((y : Int) == 3), .slice (some ⟨g13, 0, none⟩) X.length c13], .int .i64 ((t2 : Int) + (n : Int) + 8), .int .i64 0]) (by simp [results, Try.results60, go_sem, hzs]) rfl ⟨_, c13, X, by rw [hX.out, hD.out]; exact Lib.hid rfl, by simp, bts4v HOz.out hgne, fun b o e => by injection e with e; injection e with e1 _; omega, below4v hbW (by omega)⟩
  · replace hT := hT.1
    rw [if_pos (by rfl)]
    have hf := hCur.sh.fourFree
    have hc := hCur.sh.four
    go_simp
    clear hf hc
    replace hCur := hCur.put 1 (.int .i64 (P : Int))
    try replace hBX := bts_far (i := 1) (v := (.int .i64 (P : Int))) hBX hne13
    refine hK.out _ _ (Till.of ⟨_, _, _, hCur⟩) ?_
    clear hT hK K
    refine Go_.take (i := 16) (oi := ⟨some 124, Op.fieldAddr 81 (Operand.tmp 11) 2, 0, _, _, none⟩) (v := ?_) rfl (by kernel_rfl) (by kernel_rfl) (by kernel_rfl) rfl (fun _ _ _ h => h) (Or.inl ⟨by rfl, ?_⟩) ?_
    rotate_left; · intro w0 _; go_simp; try with_reducible rfl
    try simp only [Act.put, List.setIfInBounds_toArray, List.set_cons_zero, List.set_cons_succ]
    refine Go_.step2 (i := 13) (j := 17) (oi := ⟨some 122, Op.convert 9 24 (Operand.tmp 121), 24, _, _, none⟩) (oj := ⟨none, Op.store 4 (Operand.tmp 124) (Operand.tmp 112), 0, _, _, none⟩) (by kernel_rfl) rfl rfl (fun K hT hK => ?_) (fun K hT hK => ?_)
    · replace hT := hT.1
      rw [if_pos (by rfl)]
      have hlt13 := hCur.sh.lt
      refine wp_btsN (l := X) (.tmp 121) rfl (by rfl) ?_
      intro c13 g13 w13 hg13 hBX hb13
      have hne13 : ∀ b o, (some (⟨g13, 0, none⟩ : Addr)) = some ⟨b, o, none⟩ → b ≠ w.heap.size + 1 + 1 := fun b o e => by injection e with e; injection e with e1 _; omega
      replace hCur := hCur.keep hb13
      refine hK.out _ _ (Till.of ⟨_, _, _, hCur⟩) ?_
      clear hT hK K
      refine Go_.step (i := 17) (o := ⟨none, Op.store 4 (Operand.tmp 124) (Operand.tmp 112), 0, _, _, none⟩) (by kernel_rfl) rfl (fun K hT hK => ?_)
      replace hT := hT.1
      rw [if_pos (by rfl)]
      have hf := hCur.sh.fourFree
      have hc := hCur.sh.four
      go_simp
      clear hf hc
      replace hCur := hCur.put 2 (.bool ((y : Int) == 3))
      try replace hBX := bts_far (i := 2) (v := (.bool ((y : Int) == 3))) hBX hne13
      refine hK.out _ _ (Till.of ⟨_, _, _, hCur⟩) ?_
      clear hT hK K
      refine Go_.take (i := 18) (oi := ⟨some 125, Op.fieldAddr 81 (Operand.tmp 11) 3, 0, _, _, none⟩) (v := ?_) rfl (by kernel_rfl) (by kernel_rfl) (by kernel_rfl) rfl (fun _ _ _ h => h) (Or.inl ⟨by rfl, ?_⟩) ?_
      rotate_left; · intro w0 _; go_simp; try with_reducible rfl
      try simp only [Act.put, List.setIfInBounds_toArray, List.set_cons_zero, List.set_cons_succ]
      refine Go_.step (i := 19) (o := ⟨none, Op.store 24 (Operand.tmp 125) (Operand.tmp 122), 0, _, _, none⟩) (by kernel_rfl) rfl (fun K hT hK => ?_)
      replace hT := hT.1
      rw [if_pos (by rfl)]
      have hf := hCur.sh.fourFree
      have hc := hCur.sh.four
      go_simp
      clear hf hc
      replace hCur := hCur.put 3 (.slice (some ⟨g13, 0, none⟩) X.length c13)
      try replace hBX := bts_far (i := 3) (v := (.slice (some ⟨g13, 0, none⟩) X.length c13)) hBX hne13
      refine hK.out _ _ (Till.of ⟨_, _, _, hCur⟩) ?_
      clear hT hK K
      refine Go_.doneA (by kernel_rfl) (fun _ => ?_)
      refine two_worlds (A := fun w' => OpS w k [.int .i64 (y : Int), .int .i64 (P : Int), .bool ((y : Int) == 3), .slice (some ⟨g13, 0, none⟩) X.length c13] w') (B := fun w' => Bts w' (some ⟨g13, 0, none⟩) X) hCur hBX (fun wz hPz hOz => ?_)
      have hzf := hPz.zh.fourFree
      have hz4 := hPz.zh.four
      have hs4 := hPz.sh.four
      have hbW := hPz.wh
      have HPz := Lib.hid hPz
      have HOz := Lib.hid hOz
      have hgne : ∀ b o, (some (⟨g13, 0, none⟩ : Addr)) = some ⟨b, o, none⟩ → b ≠ w.heap.size + 1 := fun b o e => by injection e with e; injection e with e1 _; omega
      clear hCur hBX hPz hOz
      go_wp2_with fail
      have hzs := (put4v (v0 := .int .i64 (y : Int)) (v1 := .int .i64 (P : Int)) (v2 := .bool ((y : Int) == 3)) (v3 := .slice (some ⟨g13, 0, none⟩) X.length c13) HPz.out.zh).four
      exact bodyPost_ret (v := .tuple #[.agg #[.int .i64 (y : Int), .int .i64 (P : Int), .bool ((y : Int) == 3), .slice (some ⟨g13, 0, none⟩) X.length c13], .int .i64 ((t2 : Int) + (n : Int) + 8), .int .i64 0]) (by simp [results, Try.results60, go_sem, hzs]) rfl ⟨_, c13, X, by rw [hX.out, hD.out]; exact Lib.hid rfl, by simp, bts4v HOz.out hgne, fun b o e => by injection e with e; injection e with e1 _; omega, below4v hbW (by omega)⟩
    · replace hT := hT.1
      rw [if_pos (by rfl)]
      have hf := hCur.sh.fourFree
      have hc := hCur.sh.four
      go_simp
      clear hf hc
      replace hCur := hCur.put 2 (.bool ((y : Int) == 3))
      try replace hBX := bts_far (i := 2) (v := (.bool ((y : Int) == 3))) hBX hne13
      refine hK.out _ _ (Till.of ⟨_, _, _, hCur⟩) ?_
      clear hT hK K
      refine Go_.step (i := 13) (o := ⟨some 122, Op.convert 9 24 (Operand.tmp 121), 24, _, _, none⟩) (by kernel_rfl) rfl (fun K hT hK => ?_)
      replace hT := hT.1
      rw [if_pos (by rfl)]
      have hlt13 := hCur.sh.lt
      refine wp_btsN (l := X) (.tmp 121) rfl (by rfl) ?_
      intro c13 g13 w13 hg13 hBX hb13
      have hne13 : ∀ b o, (some (⟨g13, 0, none⟩ : Addr)) = some ⟨b, o, none⟩ → b ≠ w.heap.size + 1 + 1 := fun b o e => by injection e with e; injection e with e1 _; omega
      replace hCur := hCur.keep hb13
      refine hK.out _ _ (Till.of ⟨_, _, _, hCur⟩) ?_
      clear hT hK K
      refine Go_.take (i := 18) (oi := ⟨some 125, Op.fieldAddr 81 (Operand.tmp 11) 3, 0, _, _, none⟩) (v := ?_) rfl (by kernel_rfl) (by kernel_rfl) (by kernel_rfl) rfl (fun _ _ _ h => h) (Or.inl ⟨by rfl, ?_⟩) ?_
      rotate_left; · intro w0 _; go_simp; try with_reducible rfl
      try simp only [Act.put, List.setIfInBounds_toArray, List.set_cons_zero, List.set_cons_succ]
      refine Go_.step (i := 19) (o := ⟨none, Op.store 24 (Operand.tmp 125) (Operand.tmp 122), 0, _, _, none⟩) (by kernel_rfl) rfl (fun K hT hK => ?_)
      replace hT := hT.1
      rw [if_pos (by rfl)]
      have hf := hCur.sh.fourFree
      have hc := hCur.sh.four
      go_simp
      clear hf hc
      replace hCur := hCur.put 3 (.slice (some ⟨g13, 0, none⟩) X.length c13)
      try replace hBX := bts_far (i := 3) (v := (.slice (some ⟨g13, 0, none⟩) X.length c13)) hBX hne13
      refine hK.out _ _ (Till.of ⟨_, _, _, hCur⟩) ?_
      clear hT hK K
      refine Go_.doneA (by kernel_rfl) (fun _ => ?_)
      refine two_worlds (A := fun w' => OpS w k [.int .i64 (y : Int), .int .i64 (P : Int), .bool ((y : Int) == 3), .slice (some ⟨g13, 0, none⟩) X.length c13] w') (B := fun w' => Bts w' (some ⟨g13, 0, none⟩) X) hCur hBX (fun wz hPz hOz => ?_)
      have hzf := hPz.zh.fourFree
      have hz4 := hPz.zh.four
      have hs4 := hPz.sh.four
      have hbW := hPz.wh
      have HPz := Lib.hid hPz
      have HOz := Lib.hid hOz
      have hgne : ∀ b o, (some (⟨g13, 0, none⟩ : Addr)) = some ⟨b, o, none⟩ → b ≠ w.heap.size + 1 := fun b o e => by injection e with e; injection e with e1 _; omega
      clear hCur hBX hPz hOz
      go_wp2_with fail
      have hzs := (put4v (v0 := .int .i64 (y : Int)) (v1 := .int .i64 (P : Int)) (v2 := .bool ((y : Int) == 3)) (v3 := .slice (some ⟨g13, 0, none⟩) X.length c13) HPz.out.zh).four
      exact bodyPost_ret (v := .tuple #[.agg #[.int .i64 (y : Int), .int .i64 (P : Int), .bool ((y : Int) == 3), .slice (some ⟨g13, 0, none⟩) X.length c13], .int .i64 ((t2 : Int) + (n : Int) + 8), .int .i64 0]) (by simp [results, Try.results60, go_sem, hzs]) rfl ⟨_, c13, X, by rw [hX.out, hD.out]; exact Lib.hid rfl, by simp, bts4v HOz.out hgne, fun b o e => by injection e with e; injection e with e1 _; omega, below4v hbW (by omega)⟩
theorem ropen_any (k : K8) (s : ByteArray) (at_ : Nat) (place : Int) (w : World) (hl : s.size ≤ 100000) (hat : at_ ≤ s.size) (R : GetR) (hR : Hid (R = getP k s.data.toList at_ place)) :
    Calls Try.prog 60 #[.agg #[.int .u32 (W k.k0), .int .u32 (W k.k1), .int .u32 (W k.k2), .int .u32 (W k.k3), .int .u32 (W k.k4), .int .u32 (W k.k5), .int .u32 (W k.k6), .int .u32 (W k.k7)], .string s, .int .i64 at_, .int .i64 place] w fun e w' => ∃ A' c', e = .returned (.tuple #[.agg #[.int .i64 (R.kind : Int), .int .i64 (R.place : Int), .bool R.last, .slice A' R.body.length c'], .int .i64 (R.to : Int), .int .i64 (R.code : Int)]) ∧ Bts w' A' R.body ∧ (∀ b o, A' = some ⟨b, o, none⟩ → w.heap.size ≤ b) ∧ Below w.heap.size w w' := by
  have hsl : s.data.toList.length = s.size := rfl
  have fail : ∀ cd : Nat, R = failR at_ cd → Calls Try.prog 60 #[.agg #[.int .u32 (W k.k0), .int .u32 (W k.k1), .int .u32 (W k.k2), .int .u32 (W k.k3), .int .u32 (W k.k4), .int .u32 (W k.k5), .int .u32 (W k.k6), .int .u32 (W k.k7)], .string s, .int .i64 at_, .int .i64 place] w (fun e w' => e = .returned (.tuple #[zseg, .int .i64 at_, .int .i64 cd]) ∧ Below w.heap.size w w') →
      Calls Try.prog 60 #[.agg #[.int .u32 (W k.k0), .int .u32 (W k.k1), .int .u32 (W k.k2), .int .u32 (W k.k3), .int .u32 (W k.k4), .int .u32 (W k.k5), .int .u32 (W k.k6), .int .u32 (W k.k7)], .string s, .int .i64 at_, .int .i64 place] w fun e w' => ∃ A' c', e = .returned (.tuple #[.agg #[.int .i64 (R.kind : Int), .int .i64 (R.place : Int), .bool R.last, .slice A' R.body.length c'], .int .i64 (R.to : Int), .int .i64 (R.code : Int)]) ∧ Bts w' A' R.body ∧ (∀ b o, A' = some ⟨b, o, none⟩ → w.heap.size ≤ b) ∧ Below w.heap.size w w' := by
    intro cd hr hc
    refine hc.mono ?_
    rintro e w' ⟨rfl, hb⟩
    exact ⟨none, 0, by rw [hr]; rfl, by rw [hr]; exact Bts.nil _ _, (fun b o e => by cases e), hb⟩
  have hR' := hR.out
  unfold getP at hR'
  by_cases h1 : at_ = s.data.toList.length
  · rw [if_pos h1] at hR'
    exact fail 5 hR' (ropen_1 k s at_ place w hl h1)
  rw [if_neg h1] at hR'
  have hlt : at_ < s.size := by omega
  rw [getD_bytes s at_ hlt] at hR'
  by_cases h2 : s[at_].toNat < 1 ∨ 3 < s[at_].toNat
  · rw [if_pos h2] at hR'
    exact fail 3 hR' (ropen_1b k s at_ place w hl hlt _ rfl h2)
  rw [if_neg h2] at hR'
  obtain ⟨P, t, cd, hN⟩ : ∃ P t cd, numL s.data.toList (at_ + 1) 1048576 = (P, t, cd) := ⟨_, _, _, rfl⟩
  rw [hN] at hR'
  dsimp only at hR'
  by_cases h3 : cd = 0
  case neg =>
    rw [if_pos h3] at hR'
    exact fail cd hR' (ropen_2 k s at_ place w hl hlt _ rfl (by omega) (by omega) P t cd hN h3)
  subst h3
  rw [if_neg (by simp)] at hR'
  obtain ⟨n, t2, cd2, hN2⟩ : ∃ n t2 cd2, numL s.data.toList t 12100 = (n, t2, cd2) := ⟨_, _, _, rfl⟩
  rw [hN2] at hR'
  dsimp only at hR'
  have ha := numL_ok s.data.toList _ _ _ _ (by omega) hN
  by_cases h4 : cd2 = 0
  case neg =>
    rw [if_pos h4] at hR'
    exact fail cd2 hR' (ropen_3 k s at_ place w hl hlt _ rfl (by omega) (by omega) P t hN ha.2.1 n t2 cd2 hN2 h4)
  subst h4
  rw [if_neg (by simp)] at hR'
  have hb := numL_ok s.data.toList _ _ _ _ ha.2.1 hN2
  rw [hsl] at hR' ha hb
  by_cases h5 : s.size - t2 < n + 8
  · rw [if_pos h5] at hR'
    exact fail 5 hR' (ropen_4 k s at_ place w hl hlt _ rfl (by omega) (by omega) P t hN ha.2.1 n t2 hN2 hb.2.1 h5)
  rw [if_neg h5] at hR'
  by_cases h6 : tagL k P ((s.data.toList.drop at_).take (t2 + n - at_)) ≠ (s.data.toList.drop (t2 + n)).take 8
  · rw [if_pos h6] at hR'
    exact fail 4 hR' (ropen_5 k s at_ place w hl hlt _ rfl (by omega) (by omega) P t hN ha.2.1 (by omega) n t2 hN2 hb.2.1 hb.1 (by omega) (decide_eq_false h6))
  rw [if_neg h6] at hR'
  have h6' := Classical.not_not.1 h6
  by_cases h7 : (P : Int) ≠ place
  · rw [if_pos h7] at hR'
    exact fail 2 hR' (ropen_6 k s at_ place w hl hlt _ rfl (by omega) (by omega) P t hN ha.2.1 (by omega) n t2 hN2 hb.2.1 hb.1 (by omega) (decide_eq_true h6') (beq_eq_false_iff_ne.2 h7))
  rw [if_neg h7] at hR'
  obtain rfl := Classical.not_not.1 h7
  refine (ropen_7 k s at_ w hl hlt _ rfl (by omega) (by omega) P t hN ha.2.1 (by omega) n t2 hN2 hb.2.1 hb.1 (by omega) (decide_eq_true h6')).mono ?_
  rintro e w' ⟨A', c', X, hX, rfl, ho, hge, hbw⟩
  obtain rfl := hX.out
  refine ⟨A', c', ?_, ?_, hge, hbw⟩
  · rw [hR']
    have hq : ((s[at_].toNat : Int) == 3) = decide (s[at_].toNat = 3) := by
      by_cases hy : s[at_].toNat = 3
      · rw [hy]; rfl
      · rw [decide_eq_false hy]; exact beq_eq_false_iff_ne.2 (by omega)
    rw [hq]
    rfl
  · rw [hR']; exact ho
end Go.Proofs.Ytcdklmicbbcknaa
