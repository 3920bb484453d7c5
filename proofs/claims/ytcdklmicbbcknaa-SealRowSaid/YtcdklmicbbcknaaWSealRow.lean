/-
  steamerlaw17.SealRow answers true and leaves old memory as it was: by a walk of its text (printed by sealrow.py).
-/
import Derived.Test.YtcdklmicbbcknaaRi
namespace Go.Proofs.Ytcdklmicbbcknaa
open Go Go.RowKit
set_option linter.unusedSimpArgs false
set_option linter.unusedVariables false
theorem Sgs.cells0 {w : World} {g : Nat} {l : List SegV} (h : Sgs w (Option.some ⟨g, 0, none⟩) l) (j : Nat) (hj : j < l.length) :
    w.cell? ⟨g, j * 4, none⟩ = Option.some (.int .i64 l[j].kind) ∧ w.cell? ⟨g, j * 4 + 1, none⟩ = Option.some (.int .i64 l[j].place) ∧ w.cell? ⟨g, j * 4 + 2, none⟩ = Option.some (.bool l[j].last) ∧ w.cell? ⟨g, j * 4 + 3, none⟩ = Option.some (.slice l[j].A l[j].body.length l[j].c) := by
  have := h.cells j hj
  simpa using this
def endsL (k : K8) (D : List SegD) (i : Nat) : List Nat := (List.range i).map fun q => offS k D (q + 1)
theorem endsL_len (k : K8) (D : List SegD) (i : Nat) : (endsL k D i).length = i := by simp [endsL]
theorem endsL_succ (k : K8) (D : List SegD) (i : Nat) : endsL k D (i + 1) = endsL k D i ++ [offS k D (i + 1)] := by simp [endsL, List.range_succ]
theorem endsL_get (k : K8) (D : List SegD) (i j : Nat) (hj : j < i) : (endsL k D i).getD j 0 = offS k D (j + 1) := by
  rw [List.getD_eq_getElem?_getD]
  simp [endsL, hj]
theorem wrap64_sm (n : Nat) (h : n < 1000000) : wrap64 (n : Int) = (n : Int) := by simp [wrap64]; omega
attribute [local go_sem ↓] run_str'
attribute [local go_sem] bits_xor_B
theorem allP_len (k : K8) (b : List UInt8) : ∀ (f : Nat) (acc : List GetR) (at_ : Nat), at_ ≤ b.length → (allP k b f acc at_).1.length ≤ acc.length + (b.length - at_)
  | 0, acc, at_, h => by simp [allP]
  | f + 1, acc, at_, h => by
    rw [allP]
    by_cases h1 : (getP k b at_ acc.length).code ≠ 0
    · rw [if_pos h1]; dsimp only; omega
    · rw [if_neg h1]
      have ht := getP_to k b at_ acc.length h (Classical.not_not.1 h1)
      by_cases h2 : (getP k b at_ acc.length).last = true
      · rw [if_pos h2]; simp only [List.length_append, List.length_singleton]; omega
      · rw [if_neg h2]
        have ih := allP_len k b f (acc ++ [getP k b at_ acc.length]) _ ht.2
        simp only [List.length_append, List.length_singleton] at ih
        omega
theorem OwnS.form {w : World} {base c : Nat} {A : Option Addr} {l : List SegV} (h : OwnS w base A c l) : (A = none ∧ c = 0 ∧ l.length = 0) ∨ (∃ g, A = Option.some ⟨g, 0, none⟩ ∧ l.length ≤ c) := by
  rcases h.2 with ⟨hv, h0⟩ | ⟨g, cap, cur, hv, _, _, hn, _⟩
  · injection hv with e1 _ e3
    exact .inl ⟨e1, e3, h0⟩
  · injection hv with e1 _ e3
    exact .inr ⟨g, e1, by omega⟩
theorem Sgs.takeA {w : World} {A : Option Addr} {l : List SegV} {c : Nat} (h : Sgs w A l) (hf : (A = none ∧ c = 0 ∧ l.length = 0) ∨ (∃ g, A = Option.some ⟨g, 0, none⟩ ∧ l.length ≤ c)) (n : Nat) : Sgs w A (l.take n) := by
  rcases hf with ⟨rfl, _, h0⟩ | ⟨g, rfl, _⟩
  · exact fun h1 => absurd h1 (by rw [List.length_take]; omega)
  · exact h.take n
set_option maxRecDepth 20000 in
set_option maxHeartbeats 32000000 in
theorem srow (k : K8) (A : Option Addr) (l : List SegV) (c : Nat) (cut at_ : Int) (turn : UInt8) (w : World) (hl6 : l.length ≤ 6) (h300 : Hid (∀ s ∈ l, s.body.length ≤ 300)) (hS : Sgs w A l) (hBl : Hid (∀ s ∈ l, Bts w s.A s.body)) :
    Calls Try.prog 20 #[.agg #[.int .u32 (W k.k0), .int .u32 (W k.k1), .int .u32 (W k.k2), .int .u32 (W k.k3), .int .u32 (W k.k4), .int .u32 (W k.k5), .int .u32 (W k.k6), .int .u32 (W k.k7)], .slice A l.length c, .int .i64 cut, .int .i64 at_, .int .u8 (turn.toNat : Int)] w fun e w' => e = .returned (.bool true) ∧ Below w.heap.size w w' := by
  have hfew : Hid (decide ((∀ s ∈ l, s.body.length ≤ 300) ∧ l.length ≤ 6) = true) := decide_eq_true ⟨h300.out, hl6⟩
  have hSA := hS.below ((Below.refl w.heap.size w).alloc (Nat.le_refl _) (.cells #[.int .u32 (W k.k0), .int .u32 (W k.k1), .int .u32 (W k.k2), .int .u32 (W k.k3), .int .u32 (W k.k4), .int .u32 (W k.k5), .int .u32 (W k.k6), .int .u32 (W k.k7)] 23))
  have hb2 : Below w.heap.size w ((w.alloc (.cells #[.int .u32 (W k.k0), .int .u32 (W k.k1), .int .u32 (W k.k2), .int .u32 (W k.k3), .int .u32 (W k.k4), .int .u32 (W k.k5), .int .u32 (W k.k6), .int .u32 (W k.k7)] 23)).alloc (.cells #[.int .u32 (W k.k0), .int .u32 (W k.k1), .int .u32 (W k.k2), .int .u32 (W k.k3), .int .u32 (W k.k4), .int .u32 (W k.k5), .int .u32 (W k.k6), .int .u32 (W k.k7)] 28)) := ((Below.refl _ _).alloc (Nat.le_refl _) _).alloc (by simp) _
  have hk2 := Holds.newAt (w.alloc (.cells #[.int .u32 (W k.k0), .int .u32 (W k.k1), .int .u32 (W k.k2), .int .u32 (W k.k3), .int .u32 (W k.k4), .int .u32 (W k.k5), .int .u32 (W k.k6), .int .u32 (W k.k7)] 23)) 28 [.int .u32 (W k.k0), .int .u32 (W k.k1), .int .u32 (W k.k2), .int .u32 (W k.k3), .int .u32 (W k.k4), .int .u32 (W k.k5), .int .u32 (W k.k6), .int .u32 (W k.k7)] (n := w.heap.size + 1) (by simp)
  have hkk2 : Holds ((w.alloc (.cells #[.int .u32 (W k.k0), .int .u32 (W k.k1), .int .u32 (W k.k2), .int .u32 (W k.k3), .int .u32 (W k.k4), .int .u32 (W k.k5), .int .u32 (W k.k6), .int .u32 (W k.k7)] 23)).alloc (.cells #[.int .u32 (W k.k0), .int .u32 (W k.k1), .int .u32 (W k.k2), .int .u32 (W k.k3), .int .u32 (W k.k4), .int .u32 (W k.k5), .int .u32 (W k.k6), .int .u32 (W k.k7)] 28)) w.heap.size 23 [.int .u32 (W k.k0), .int .u32 (W k.k1), .int .u32 (W k.k2), .int .u32 (W k.k3), .int .u32 (W k.k4), .int .u32 (W k.k5), .int .u32 (W k.k6), .int .u32 (W k.k7)] := (Holds.newAt w 23 [.int .u32 (W k.k0), .int .u32 (W k.k1), .int .u32 (W k.k2), .int .u32 (W k.k3), .int .u32 (W k.k4), .int .u32 (W k.k5), .int .u32 (W k.k6), .int .u32 (W k.k7)] rfl).alloc _
  have HS2 := Lib.hid (And.intro (hS.below hb2) (And.intro (fun s (hs : s ∈ l) => (hBl.out s hs).below hb2) (And.intro hk2 (And.intro hb2 hkk2))))
  obtain ⟨D, hD⟩ : ∃ D, Hid (D = rowD l) := ⟨_, Lib.hid rfl⟩
  have HD : Hid (RowOk D l.length) := Lib.hid (by rw [hD.out]; exact rowD_ok l hl6 h300.out)
  have hDl : Hid (D.length = l.length + 1) := HD.out.len
  clear hb2 hk2 hkk2
  go_enter Try.func20, Try.ntmps20
  go_wp2_with fail
  refine (few_any A l c 6 _ (by omega) hSA).mono ?_
  rintro e w9 ⟨rfl, rfl⟩
  rw [hfew.out]
  clear hSA
  go_wp2_with fail
  refine (so_row A l c _ (by omega) HS2.out.1 HS2.out.2.1).mono ?_
  rintro e w1 ⟨g, cr, r, hkr, hrl, rfl, hcr, hsr, hbr, hb1⟩
  rw [← hD.out] at hkr
  have HB : Hid (OrB w w1 g k r) := Lib.hid ⟨HS2.out.2.2.1.below hb1 HS2.out.2.2.1.lt, hsr, hbr, HS2.out.2.2.2.1.trans (hb1.mono HS2.out.2.2.2.1.size)⟩
  have HK : Hid (Holds w1 w.heap.size 23 [.int .u32 (W k.k0), .int .u32 (W k.k1), .int .u32 (W k.k2), .int .u32 (W k.k3), .int .u32 (W k.k4), .int .u32 (W k.k5), .int .u32 (W k.k6), .int .u32 (W k.k7)]) := Lib.hid (HS2.out.2.2.2.2.belowW hb1)
  have hz1 : w.heap.size ≤ w1.heap.size := HB.out.wh.size
  clear hsr hbr hb1 HS2 hS
  go_wp2_with fail
  go_loopw [13, 14, 15] (fun v u x wr => ∃ (i : Nat) (A5 : Option Addr) (c5 : Nat) (rb : List UInt8) (A6 : Option Addr) (c6 : Nat) (es : List Nat), i ≤ l.length + 1 ∧ v = .slice A5 rb.length c5 ∧ u = .slice A6 es.length c6 ∧ x = .int .i64 i ∧ Hid (rb = catS k (D.take i) ∧ es = endsL k D i) ∧ rb.length ≤ 345 * i ∧ Own wr w1.heap.size A5 c5 rb ∧ OwnI wr w1.heap.size A6 c6 es ∧ Below w1.heap.size w1 wr) (fun _ _ x _ => l.length + 1 - (intOf x).toNat)
  case atStart => exact ⟨0, none, 0, [], none, 0, [], by omega, rfl, rfl, rfl, Lib.hid ⟨by simp [catS], by simp [endsL]⟩, by simp, Own.nil _ _, OwnI.nil _ _, Below.refl _ _⟩
  case round =>
    obtain ⟨i, A5, c5, rb, A6, c6, es, hi, rfl, rfl, rfl, hrb, hrbl, ho, hI, hb⟩ := hrel
    by_cases hlt : i < l.length + 1
    · have hir : i < r.length := by rw [hrl.out]; exact hlt
      have hiD : i < D.length := by rw [hDl.out]; exact hlt
      have hkd : Hid ((r[i]).key = (D[i]).key) := by
        have h2 := congrArg (fun x => x[i]?) hkr.out
        simp only [List.getElem?_map, List.getElem?_eq_getElem hir, List.getElem?_eq_getElem hiD, Option.map_some, Option.some.injEq] at h2
        exact Lib.hid h2
      have hgd : Hid (D[i]).good := HD.out.good _ (List.getElem_mem hiD)
      have hBi : Hid (Bts w1 r[i].A r[i].body) := HB.out.br _ (List.getElem_mem hir)
      have hct := Lib.hid (catS_take k D i hiD)
      have hbl := Lib.hid (bytes_len k D[i] hgd.out).1
      have hesl : Hid (es.length = i) := Lib.hid (by rw [hrb.out.2, endsL_len])
      have HW := Lib.hid hb
      have hltI : (i : Int) < (l.length : Int) + 1 := by omega
      clear hb
      go_wp2_with fail
      refine wp_region_till 11 (fun w' => Below w1.heap.size w1 w') (fun _ => True) (by kernel_rfl) (HW.out.drew) trivial ?_
      show Go_ _ _ _ _ _ _ _ _ _ _ (World.drew _)
      refine Go_.take (i := 0) (oi := ⟨some 49, Op.load 28 (Operand.tmp 11), 28, _, _, none⟩) (v := ?_) rfl (by kernel_rfl) (by kernel_rfl) (by kernel_rfl) rfl (fun _ _ _ h => h) (Or.inl ⟨by rfl, ?_⟩) ?_
      rotate_left; · intro w0 hS; have h8 := (HB.out.kh.belowW hS).eight; have hcs := (HB.out.sr.below hS).cells0 i hir; go_simp; try with_reducible rfl
      try simp only [Act.put, List.setIfInBounds_toArray, List.set_cons_zero, List.set_cons_succ]
      refine Go_.take (i := 1) (oi := ⟨some 50, Op.move (Operand.tmp 12), 75, _, _, none⟩) (v := ?_) rfl (by kernel_rfl) (by kernel_rfl) (by kernel_rfl) rfl (fun _ _ _ h => h) (Or.inl ⟨by rfl, ?_⟩) ?_
      rotate_left; · intro w0 _; go_simp; try with_reducible rfl
      try simp only [Act.put, List.setIfInBounds_toArray, List.set_cons_zero, List.set_cons_succ]
      refine Go_.take (i := 2) (oi := ⟨some 51, Op.move (Operand.tmp 15), 3, _, _, none⟩) (v := ?_) rfl (by kernel_rfl) (by kernel_rfl) (by kernel_rfl) rfl (fun _ _ _ h => h) (Or.inl ⟨by rfl, ?_⟩) ?_
      rotate_left; · intro w0 _; go_simp; try with_reducible rfl
      try simp only [Act.put, List.setIfInBounds_toArray, List.set_cons_zero, List.set_cons_succ]
      refine Go_.take (i := 3) (oi := ⟨some 52, Op.indexAddr 75 (Operand.tmp 50) (Operand.tmp 51), 0, _, _, none⟩) (v := ?_) rfl (by kernel_rfl) (by kernel_rfl) (by kernel_rfl) rfl (fun _ _ _ h => h) (Or.inl ⟨by rfl, ?_⟩) ?_
      rotate_left; · intro w0 _; go_simp; try with_reducible rfl
      try simp only [Act.put, List.setIfInBounds_toArray, List.set_cons_zero, List.set_cons_succ]
      refine Go_.take (i := 4) (oi := ⟨some 53, Op.load 81 (Operand.tmp 52), 81, _, _, none⟩) (v := ?_) rfl (by kernel_rfl) (by kernel_rfl) (by kernel_rfl) rfl (fun _ _ _ h => h) (Or.inl ⟨by rfl, ?_⟩) ?_
      rotate_left; · intro w0 hS; have h8 := (HB.out.kh.belowW hS).eight; have hcs := (HB.out.sr.below hS).cells0 i hir; go_simp; try with_reducible rfl
      try simp only [Act.put, List.setIfInBounds_toArray, List.set_cons_zero, List.set_cons_succ]
      refine Go_.step (i := 5) (o := ⟨some 54, Op.call { callee := Callee.value (Operand.func 54), args := #[Operand.tmp 49, Operand.tmp 53], argTypes := #[28, 81] }, 78, _, _, none⟩) (by kernel_rfl) rfl (fun K hT hK => ?_)
      replace hT := hT.1
      rw [if_pos (by rfl)]
      go_simp
      refine (so_put k r[i] D[i] hkd hgd _ (hBi.out.below hT)).mono ?_
      rintro e w6 ⟨A7, c7, rp, hrp, rfl, hB6, hb6⟩
      refine hK.out _ _ (Till.of (hT.trans (hb6.mono hT.size))) ?_
      clear hT hK K
      refine Go_.take (i := 6) (oi := ⟨some 48, Op.move (Operand.tmp 54), 78, _, _, none⟩) (v := ?_) rfl (by kernel_rfl) (by kernel_rfl) (by kernel_rfl) rfl (fun _ _ _ h => h) (Or.inl ⟨by rfl, ?_⟩) ?_
      rotate_left; · intro w0 _; go_simp; try with_reducible rfl
      try simp only [Act.put, List.setIfInBounds_toArray, List.set_cons_zero, List.set_cons_succ]
      refine Go_.take (i := 7) (oi := ⟨some 55, Op.extract (Operand.tmp 48) 0, 24, _, _, none⟩) (v := ?_) rfl (by kernel_rfl) (by kernel_rfl) (by kernel_rfl) rfl (fun _ _ _ h => h) (Or.inl ⟨by rfl, ?_⟩) ?_
      rotate_left; · intro w0 _; go_simp; try with_reducible rfl
      try simp only [Act.put, List.setIfInBounds_toArray, List.set_cons_zero, List.set_cons_succ]
      refine Go_.take (i := 8) (oi := ⟨some 56, Op.extract (Operand.tmp 48) 1, 3, _, _, none⟩) (v := ?_) rfl (by kernel_rfl) (by kernel_rfl) (by kernel_rfl) rfl (fun _ _ _ h => h) (Or.inl ⟨by rfl, ?_⟩) ?_
      rotate_left; · intro w0 _; go_simp; try with_reducible rfl
      try simp only [Act.put, List.setIfInBounds_toArray, List.set_cons_zero, List.set_cons_succ]
      refine Go_.take (i := 9) (oi := ⟨some 16, Op.assign (Operand.tmp 55), 24, _, _, none⟩) (v := ?_) rfl (by kernel_rfl) (by kernel_rfl) (by kernel_rfl) rfl (fun _ _ _ h => h) (Or.inl ⟨by rfl, ?_⟩) ?_
      rotate_left; · intro w0 _; go_simp; try with_reducible rfl
      try simp only [Act.put, List.setIfInBounds_toArray, List.set_cons_zero, List.set_cons_succ]
      refine Go_.take (i := 10) (oi := ⟨some 17, Op.assign (Operand.tmp 56), 3, _, _, none⟩) (v := ?_) rfl (by kernel_rfl) (by kernel_rfl) (by kernel_rfl) rfl (fun _ _ _ h => h) (Or.inl ⟨by rfl, ?_⟩) ?_
      rotate_left; · intro w0 _; go_simp; try with_reducible rfl
      try simp only [Act.put, List.setIfInBounds_toArray, List.set_cons_zero, List.set_cons_succ]
      refine Go_.doneA (by kernel_rfl) (fun hA => ?_)
      have ho6 := ho.drew.below hb6
      have hI6 : OwnI w6 w1.heap.size A6 c6 es := OwnI.below (w := World.drew wr) hI hb6
      have hz6 := hA.size
      have HA := Lib.hid hA
      have hrpl : rp.length ≤ 345 := by rw [hrp.out]; exact hbl.out
      clear hb6 hA ho hI
      go_wp2_with (at_builtin; first | (refine wpList_app rfl (.tmp 59) (.tmp 60) rfl (by rfl) ho6 (by rfl) hB6 (by omega) hz6 ?_; intro A8 c8 r8 w8 hr8 ho8 hg8 ha8; have hI8 := OwnI.below (hI6.keptB ho6 hg8) ((Below.refl w8.heap.size w8).alloc (Nat.le_refl _) (.cells #[.int .i64 (r8.length : Int)] 3)); have hc8 : (w8.alloc (.cells #[.int .i64 (r8.length : Int)] 3)).cell? ⟨w8.heap.size, 0, none⟩ = some (.int .i64 ((r8.length : Nat) : Int)) := (Holds.newAt w8 3 [.int .i64 (r8.length : Int)] rfl).one; have hb8 := HA.out.grown hg8 hz6 (fun q hq => (ho6.lt q hq).1); have hz8 := hb8.size; have hb8b := hb8.alloc hz8 (.cells #[.int .i64 (r8.length : Int)] 3); have hz8b := hb8b.size; clear hI6 hz6 hg8 ha8) | (refine wpList_appI rfl (.tmp 62) (.tmp 65) rfl (by rfl) hI8 (by rfl) hc8 (by rw [hesl.out]; omega) hz8b ?_; intro A9 c9 r9 w9 hr9 hI9 hg9))
      have ho9 := (ho8.alloc (.cells #[.int .i64 (r8.length : Int)] 3)).keptI hI8 hg9
      have hb9 := hb8b.grown hg9 hz8b (fun q hq => (hI8.lt q hq).1)
      go_round
      case rel =>
        have hr8l : r8.length = rb.length + rp.length := by rw [hr8.out, List.length_append]
        refine ⟨i + 1, A8, c8, r8, A9, c9, r9, by omega, rfl, rfl, by go_num, Lib.hid ⟨?_, ?_⟩, by omega, ho9, hI9, hb9⟩
        · rw [hr8.out, hct.out, hrb.out.1, hrp.out]
        · rw [hr9.out, endsL_succ, hrb.out.2]
          congr 2
          rw [hr8.out, hrb.out.1, hrp.out]
          unfold offS
          rw [hct.out]
      case measure => simp [intOf]; omega
    · obtain rfl : i = l.length + 1 := by omega
      have hrb2 : Hid (rb = catS k D) := by rw [hrb.out.1, ← hDl.out, List.take_length]; exact Lib.hid rfl
      have hes : Hid (es = endsL k D (l.length + 1)) := hrb.out.2
      have HW := Lib.hid hb
      have HO := Lib.hid (And.intro ho hI)
      have hrb5 : rb.length ≤ 5000 := by omega
      clear ho hI hrb hb hrbl hi
      have hoff : Hid (offS k D D.length = rb.length) := by rw [offS_all, hrb2.out]; exact Lib.hid rfl
      have hb0 : 0 < rb.length := by
        have h1 := offS_idx k D HD.out.good D.length (Nat.le_refl _)
        rw [hoff.out, hDl.out] at h1
        omega
      have hb0n : ¬ rb.length = 0 := by omega
      have hcap := HO.out.1.cap
      obtain ⟨gb, rfl, _, _⟩ := HO.out.1.addr hb0
      have hBb := HO.out.1.bts
      have h8 := (HB.out.kh.belowW HW.out).eight
      go_wp2_with fail
      refine (sr_full k D l.length HD _ rb c5 _ hrb2 (by omega) hcap hBb).mono ?_
      rintro e w10 ⟨A10, c10, m, hkm, hml, rfl, hsm, hbm, hb10⟩
      have HM := Lib.hid (And.intro (And.intro hsm hbm) (HW.out.trans (hb10.mono HW.out.size)))
      have HO2 := Lib.hid (And.intro (HO.out.1.below hb10) (HO.out.2.below hb10))
      have hP : Hid (SgP w10 A10 (some ⟨g, 0, none⟩) m r w10) := Lib.hid ⟨hsm, HB.out.sr.below HM.out.2, hbm, fun s hs => (HB.out.br s hs).below HM.out.2, Below.refl _ _⟩
      have hkk : Hid (m.map SegV.key = r.map SegV.key) := by rw [hkm.out, hkr.out]; exact Lib.hid rfl
      clear hsm hbm hb10 h8 hBb HO HW
      go_wp2_with fail
      refine (so_segs (l.length + 1) (l.length + 1) _ _ _ _ hml hrl _ _ _ (by omega) hkk hP.out).mono ?_
      rintro e w11 ⟨rfl, hb11⟩
      have HW11 := Lib.hid (HM.out.2.trans (hb11.mono HM.out.2.size))
      have HO11 := Lib.hid (And.intro (HO2.out.1.below hb11) (HO2.out.2.below hb11))
      clear hP hkk HM HO2 hb11
      obtain ⟨cq, hcq, hcq2⟩ := utmod cut rb.length hb0
      have HCQ := Lib.hid hcq2
      clear hcq2
      obtain ⟨nn, hnn, hnn1, hnn2⟩ := exists_n k D cq D.length (Nat.le_refl _) (by rw [hoff.out]; exact hcq)
      have hnnN : nn < l.length + 1 := by have := hDl.out; omega
      have HN := Lib.hid (And.intro hnn1 hnn2)
      clear hnn hnn1 hnn2
      have hcq5 : cq < 5000 := by omega
      have HWB : Hid (IntKind.u64.wrap (rb.length : Int) = (rb.length : Int)) := Lib.hid (by simp [IntKind.wrap, IntKind.bits, IntKind.signed]; omega)
      have hcq2 := HCQ.out
      have hwb := HWB.out
      go_wp2_with fail
      clear hwb hcq2
      have hq0 : (0 : Int) ≤ (cq : Int) ∧ (cq : Int) ≤ (c5 : Int) := by omega
      have hq1 : (cq : Int) ≤ (c5 : Int) := by omega
      have hq2 : ¬ c5 = 0 := by omega
      refine wp_region_till 12 (fun w' => Below w1.heap.size w1 w') (fun _ => True) (by kernel_rfl) (HW11.out.drew) trivial ?_
      show Go_ _ _ _ _ _ _ _ _ _ _ (World.drew _)
      refine Go_.take (i := 0) (oi := ⟨some 101, Op.load 28 (Operand.tmp 11), 28, _, _, none⟩) (v := ?_) rfl (by kernel_rfl) (by kernel_rfl) (by kernel_rfl) rfl (fun _ _ _ h => h) (Or.inl ⟨by rfl, ?_⟩) ?_
      rotate_left; · intro w0 hS; have h8 := (HB.out.kh.belowW hS).eight; go_simp; try with_reducible rfl
      try simp only [Act.put, List.setIfInBounds_toArray, List.set_cons_zero, List.set_cons_succ]
      refine Go_.take (i := 1) (oi := ⟨some 102, Op.move (Operand.tmp 13), 24, _, _, none⟩) (v := ?_) rfl (by kernel_rfl) (by kernel_rfl) (by kernel_rfl) rfl (fun _ _ _ h => h) (Or.inl ⟨by rfl, ?_⟩) ?_
      rotate_left; · intro w0 _; go_simp; try with_reducible rfl
      try simp only [Act.put, List.setIfInBounds_toArray, List.set_cons_zero, List.set_cons_succ]
      refine Go_.take (i := 2) (oi := ⟨some 103, Op.move (Operand.tmp 21), 3, _, _, none⟩) (v := ?_) rfl (by kernel_rfl) (by kernel_rfl) (by kernel_rfl) rfl (fun _ _ _ h => h) (Or.inl ⟨by rfl, ?_⟩) ?_
      rotate_left; · intro w0 _; go_simp; try with_reducible rfl
      try simp only [Act.put, List.setIfInBounds_toArray, List.set_cons_zero, List.set_cons_succ]
      refine Go_.take (i := 3) (oi := ⟨some 104, Op.slice 24 (Operand.tmp 102) none (some (Operand.tmp 103)) none, 24, _, _, none⟩) (v := ?_) rfl (by kernel_rfl) (by kernel_rfl) (by kernel_rfl) rfl (fun _ _ _ h => h) (Or.inl ⟨by rfl, ?_⟩) ?_
      rotate_left; · intro w0 _; go_simp; try with_reducible rfl
      try simp only [Act.put, List.setIfInBounds_toArray, List.set_cons_zero, List.set_cons_succ]
      refine Go_.step (i := 4) (o := ⟨some 105, Op.call { callee := Callee.value (Operand.func 55), args := #[Operand.tmp 101, Operand.tmp 104, Operand.const (Value.int IntKind.i64 0)], argTypes := #[28, 24, 3] }, 82, _, _, none⟩) (by kernel_rfl) rfl (fun K hT hK => ?_)
      replace hT := hT.1
      rw [if_pos (by rfl)]
      go_simp
      refine (sr_cut k D l.length HD gb rb c5 cq nn _ hrb2 (by omega) hcap (HO11.out.1.drew).bts hcq hnnN HN).mono ?_
      rintro e w12 ⟨A12, c12, m2, to2, hkm2, hml2, rfl, hsm2, hbm2, hb12⟩
      refine hK.out _ _ (Till.of (hT.trans (hb12.mono hT.size))) ?_
      clear hT hK K
      refine Go_.take (i := 5) (oi := ⟨some 100, Op.move (Operand.tmp 105), 82, _, _, none⟩) (v := ?_) rfl (by kernel_rfl) (by kernel_rfl) (by kernel_rfl) rfl (fun _ _ _ h => h) (Or.inl ⟨by rfl, ?_⟩) ?_
      rotate_left; · intro w0 _; go_simp; try with_reducible rfl
      try simp only [Act.put, List.setIfInBounds_toArray, List.set_cons_zero, List.set_cons_succ]
      refine Go_.take (i := 6) (oi := ⟨some 106, Op.extract (Operand.tmp 100) 0, 75, _, _, none⟩) (v := ?_) rfl (by kernel_rfl) (by kernel_rfl) (by kernel_rfl) rfl (fun _ _ _ h => h) (Or.inl ⟨by rfl, ?_⟩) ?_
      rotate_left; · intro w0 _; go_simp; try with_reducible rfl
      try simp only [Act.put, List.setIfInBounds_toArray, List.set_cons_zero, List.set_cons_succ]
      refine Go_.take (i := 7) (oi := ⟨some 107, Op.extract (Operand.tmp 100) 1, 3, _, _, none⟩) (v := ?_) rfl (by kernel_rfl) (by kernel_rfl) (by kernel_rfl) rfl (fun _ _ _ h => h) (Or.inl ⟨by rfl, ?_⟩) ?_
      rotate_left; · intro w0 _; go_simp; try with_reducible rfl
      try simp only [Act.put, List.setIfInBounds_toArray, List.set_cons_zero, List.set_cons_succ]
      refine Go_.take (i := 8) (oi := ⟨some 108, Op.extract (Operand.tmp 100) 2, 3, _, _, none⟩) (v := ?_) rfl (by kernel_rfl) (by kernel_rfl) (by kernel_rfl) rfl (fun _ _ _ h => h) (Or.inl ⟨by rfl, ?_⟩) ?_
      rotate_left; · intro w0 _; go_simp; try with_reducible rfl
      try simp only [Act.put, List.setIfInBounds_toArray, List.set_cons_zero, List.set_cons_succ]
      refine Go_.take (i := 9) (oi := ⟨some 22, Op.assign (Operand.tmp 106), 75, _, _, none⟩) (v := ?_) rfl (by kernel_rfl) (by kernel_rfl) (by kernel_rfl) rfl (fun _ _ _ h => h) (Or.inl ⟨by rfl, ?_⟩) ?_
      rotate_left; · intro w0 _; go_simp; try with_reducible rfl
      try simp only [Act.put, List.setIfInBounds_toArray, List.set_cons_zero, List.set_cons_succ]
      refine Go_.take (i := 10) (oi := ⟨some 23, Op.assign (Operand.tmp 107), 3, _, _, none⟩) (v := ?_) rfl (by kernel_rfl) (by kernel_rfl) (by kernel_rfl) rfl (fun _ _ _ h => h) (Or.inl ⟨by rfl, ?_⟩) ?_
      rotate_left; · intro w0 _; go_simp; try with_reducible rfl
      try simp only [Act.put, List.setIfInBounds_toArray, List.set_cons_zero, List.set_cons_succ]
      refine Go_.take (i := 11) (oi := ⟨some 24, Op.assign (Operand.tmp 108), 3, _, _, none⟩) (v := ?_) rfl (by kernel_rfl) (by kernel_rfl) (by kernel_rfl) rfl (fun _ _ _ h => h) (Or.inl ⟨by rfl, ?_⟩) ?_
      rotate_left; · intro w0 _; go_simp; try with_reducible rfl
      try simp only [Act.put, List.setIfInBounds_toArray, List.set_cons_zero, List.set_cons_succ]
      refine Go_.doneA (by kernel_rfl) (fun hA => ?_)
      have HM2 := Lib.hid (And.intro (And.intro hsm2 hbm2) hA)
      have HO12 := Lib.hid (And.intro ((HO11.out.1.drew).below hb12) (OwnI.below (w := World.drew w11) HO11.out.2 hb12))
      clear hA hsm2 hbm2 hb12 HO11 HW11
      have hesl : Hid (es.length = l.length + 1) := Lib.hid (by rw [hes.out, endsL_len])
      obtain ⟨ge, rfl, hge1, hge2, hget, hgc⟩ := HO12.out.2.cells (by rw [hesl.out]; omega)
      have HGC := Lib.hid (And.intro hget hgc)
      clear hget hgc
      go_wp2_with fail
      go_loopw [25] (fun x wr2 => ∃ q : Nat, q ≤ nn ∧ x = .int .i64 q ∧ wr2 = w12) (fun x _ => l.length + 1 - (intOf x).toNat)
      case atStart => exact ⟨0, by omega, rfl, rfl⟩
      case round =>
        obtain ⟨q, hq, rfl, rfl⟩ := hrel
        have hqc := HGC.out.2 q (by rw [hesl.out]; omega)
        have hqi : (q : Int) < (es.length : Int) := by have := hesl.out; omega
        rw [hes.out, endsL_get k D _ q (by omega)] at hqc
        obtain ⟨E, hE⟩ : ∃ E, Hid (offS k D (q + 1) = E) := ⟨_, rfl⟩
        rw [hE.out] at hqc
        by_cases hqn : q < nn
        · have hEle : (E : Int) ≤ (cq : Int) := by
            have h1 := offS_mono k D (q + 1) nn (by omega) (by have := hDl.out; omega)
            rw [hE.out] at h1
            have := HN.out.1
            omega
          go_wp2_with fail
          go_round
          case rel => exact ⟨q + 1, by omega, by go_num, trivial⟩
          case measure => simp [intOf]; omega
        · obtain rfl : q = nn := by omega
          have hEgt : ¬ (E : Int) ≤ (cq : Int) := by
            have h1 := HN.out.2
            rw [hE.out] at h1
            omega
          have hP2 : Hid (SgP wr A12 (some ⟨g, 0, none⟩) m2 (r.take q) wr) := Lib.hid ⟨HM2.out.1.1, (HB.out.sr.take q).below HM2.out.2, HM2.out.1.2, fun s hs => (HB.out.br s (List.mem_of_mem_take hs)).below HM2.out.2, Below.refl _ _⟩
          have hkk2 : Hid (m2.map SegV.key = (r.take q).map SegV.key) := by rw [hkm2.out, List.map_take, List.map_take, hkr.out]; exact Lib.hid rfl
          have hrt2 : Hid ((r.take q).length = q) := by rw [List.length_take, hrl.out]; exact Lib.hid (by omega)
          have hq3 : (q : Int) ≤ (cr : Int) := by omega
          have hq4 : ¬ cr = 0 := by omega
          go_wp2_with fail
          clear hqc hqi
          refine (so_segs q q _ _ _ _ hml2 hrt2 _ _ _ (by omega) hkk2 hP2.out).mono ?_
          rintro e w13 ⟨rfl, hb13⟩
          have HW13 := Lib.hid (HM2.out.2.trans (hb13.mono HM2.out.2.size))
          have HO13 := Lib.hid (And.intro (HO12.out.1.below hb13) (HO12.out.2.below hb13))
          clear hP2 hkk2 HM2 HO12 hb13 HGC
          by_cases htn : turn = 0
          · have htI : (turn.toNat : Int) = 0 := by rw [htn]; rfl
            go_wp2_with fail
            refine (told17 _).mono ?_
            rintro e w14 ⟨rfl, hb14⟩
            have hfin := HB.out.wh.trans ((HW13.out.trans (hb14.mono HW13.out.size)).mono hz1)
            go_wp2_with fail
            go_ret
            exact ⟨rfl, hfin⟩
          · have htI : ((turn.toNat : Int) == 0) = false := beq_eq_false_iff_ne.2 (fun e => htn (by have h1 : turn.toNat = 0 := (by omega); exact UInt8.toNat_inj.1 h1))
            have ho0 := Own.made w13 w13.heap.size (Nat.le_refl _) [] (by simp)
            have hbe : Below w13.heap.size w13 (w13.alloc (.cells (bvals []).toArray 5)) := (Below.refl _ _).alloc (Nat.le_refl _) _
            have hBb2 := (HO13.out.1.bts).below hbe
            have hsz := hbe.size
            go_wp2_with (at_builtin; refine wpList_app (w := w13.alloc (.cells (bvals []).toArray 5)) rfl (.tmp 136) (.tmp 137) rfl (by rfl) ho0 (by rfl) hBb2 (by simp; omega) hsz ?_; intro A14 c14 tb w14 htb ho14 hg14 ha14; have hb14 := hbe.grown hg14 hsz (fun q hq => (ho0.lt q hq).1); have htbl : Hid (tb.length = rb.length) := Lib.hid (by rw [htb.out]; rfl); have htb5 : tb.length ≤ 5000 := (by rw [htbl.out]; exact hrb5); have htb0 : 0 < tb.length := (by rw [htbl.out]; exact hb0); have htbn : ¬ tb.length = 0 := (by omega); obtain ⟨gt, hgt, hgt1, hgt2⟩ := ho14.addr htb0; subst hgt; obtain ⟨jq, hjq, hjq2⟩ := utmod at_ tb.length htb0; have HJQ := Lib.hid hjq2; have hwt : Hid (IntKind.u64.wrap (tb.length : Int) = (tb.length : Int)) := Lib.hid (by simp [IntKind.wrap, IntKind.bits, IntKind.signed]; clear hjq2; omega); obtain ⟨x, hx⟩ : ∃ x, Hid (x = tb.getD jq 0) := ⟨_, rfl⟩; have hcj := ho14.cell jq hjq; rw [← hx.out] at hcj; have hfj := ho14.free jq; have hjI : (jq : Int) < (tb.length : Int) := (by clear hjq2; omega); have hwt2 := hwt.out; clear hbe hBb2 hsz ho0 hg14 ha14 hb0n)
            clear hjq2 hwt2 hcj hfj
            have ho15 := ho14.set jq (x ^^^ turn)
            rw [UInt8.toNat_xor] at ho15
            obtain ⟨t, ht⟩ : ∃ t, Hid (t = tb.set jq (x ^^^ turn)) := ⟨_, rfl⟩
            rw [← ht.out] at ho15
            have htl : t.length = tb.length := by rw [ht.out, List.length_set]
            have hBt := ho15.bts
            have hb15 : Below w1.heap.size w1 (w14.setCell ⟨gt, jq, none⟩ (.int .u8 ((x.toNat ^^^ turn.toNat : Nat) : Int))) := (HW13.out.trans (hb14.mono HW13.out.size)).setCell (p := ⟨gt, jq, none⟩) (Nat.le_trans HW13.out.size hgt1) _
            have hI14 := HO13.out.2.below hb14
            have hesl2 := hesl.out
            obtain ⟨ge2, hge3, _, _, _, hgc2⟩ := hI14.cells (by rw [hesl2]; omega)
            injection hge3 with hge3
            injection hge3 with hge3 _
            subst hge3
            have hgne : ge ≠ gt := by
              obtain ⟨ge4, hge4, _, hlt4, _⟩ := HO13.out.2.cells (by rw [hesl2]; omega)
              injection hge4 with hge4
              injection hge4 with hge4 _
              subst hge4
              omega
            have hc15 : ∀ q, q < es.length → (w14.setCell ⟨gt, jq, none⟩ (.int .u8 ((x.toNat ^^^ turn.toNat : Nat) : Int))).cell? ⟨ge, q, none⟩ = some (.int .i64 ((es.getD q 0 : Nat) : Int)) := fun q hq => (World.cell?_of_block (w := w14) (Below.heap_setCell w14 ⟨gt, jq, none⟩ (.int .u8 ((x.toNat ^^^ turn.toNat : Nat) : Int)) ge hgne)).trans (hgc2 q hq)
            have HC15 := Lib.hid hc15
            obtain ⟨ii, hii, hii1, hii2⟩ := exists_n k D jq D.length (Nat.le_refl _) (by rw [hoff.out, ← htbl.out]; exact hjq)
            have hiiN : ii < l.length + 1 := by have := hDl.out; omega
            have HII := Lib.hid (And.intro hii1 hii2)
            have hcap14 := ho14.cap
            have HBT := Lib.hid (And.intro hBt hb15)
            have HTL := Lib.hid htl
            clear hii hii1 hii2 ho15 ho14 hb14 hBt hb15 hI14 hgc2 hc15 HO13 HW13 htl hesl2
            generalize w14.setCell ⟨gt, jq, none⟩ (.int .u8 ((x.toNat ^^^ turn.toNat : Nat) : Int)) = w15 at *
            go_loopw [28] (fun x2 wr2 => ∃ q : Nat, q ≤ ii ∧ x2 = .int .i64 q ∧ wr2 = w15) (fun x2 _ => l.length + 1 - (intOf x2).toNat)
            case atStart => exact ⟨0, by omega, rfl, rfl⟩
            case round =>
              obtain ⟨q, hq, rfl, rfl⟩ := hrel
              have hqc := HC15.out q (by rw [hesl.out]; omega)
              have hqi : (q : Int) < (es.length : Int) := by have := hesl.out; omega
              rw [hes.out, endsL_get k D _ q (by omega)] at hqc
              obtain ⟨E, hE⟩ : ∃ E, Hid (offS k D (q + 1) = E) := ⟨_, rfl⟩
              rw [hE.out] at hqc
              by_cases hqn : q < ii
              · have hEle : (E : Int) ≤ (jq : Int) := by
                  have h1 := offS_mono k D (q + 1) ii (by omega) (by have := hDl.out; omega)
                  rw [hE.out] at h1
                  have := HII.out.1
                  omega
                go_wp2_with fail
                go_round
                case rel => exact ⟨q + 1, by omega, by go_num, trivial⟩
                case measure => simp [intOf]; omega
              · obtain rfl : q = ii := by omega
                have hEgt : ¬ (E : Int) ≤ (jq : Int) := by
                  have h1 := HII.out.2
                  rw [hE.out] at h1
                  omega
                have h8 := (HB.out.kh.belowW HBT.out.2).eight
                go_wp2_with fail
                refine (sr_turn k D l.length HD _ rb t tb.length c14 jq q (x ^^^ turn) _ HTL.out hrb2 (Lib.hid (by rw [ht.out, htb.out]; rfl)) (by omega) hcap14 HBT.out.1 hjq hiiN (Lib.hid HII.out.1)).mono ?_
                rintro e w16 ⟨A16, c16, o, rs, to, cd, hA, hko, hkt, hol, rfl, hOo, hbo, hb16⟩
                have hto : (to : Int) ≤ (tb.length : Int) := by have := hkt.out.2; omega
                have HOO := Lib.hid (And.intro hOo.sgs hbo)
                have HW16 := Lib.hid (HBT.out.2.trans (hb16.mono HBT.out.2.size))
                have HBT16 := Lib.hid (HBT.out.1.below hb16)
                have hform := hOo.form
                have hol9 : o.length ≤ 1000000 := by
                  have h1 := allP_len k t (tb.length + 1 - 0) [] 0 (by omega)
                  rw [hA.out, HTL.out] at h1
                  have h2 := congrArg List.length hko.out
                  simp only [List.length_map] at h2
                  simp only [List.length_nil] at h1
                  omega
                clear hqc hqi h8 HBT hOo hbo hb16
                go_wp2_with fail
                have hol2 : ¬ (o.length : Int) < (q : Int) := by omega
                have hrt3 : Hid ((r.take q).length = q) := by rw [List.length_take, hrl.out]; exact Lib.hid (by omega)
                have hot : Hid ((o.take q).length = q) := by rw [List.length_take]; exact Lib.hid (by omega)
                have hkk3 : Hid ((o.take q).map SegV.key = (r.take q).map SegV.key) := by rw [hkt.out.1, List.map_take, List.map_take, hkr.out]; exact Lib.hid rfl
                have hsg3 : Hid (Sgs w16 A16 (o.take q)) := Lib.hid (HOO.out.1.takeA hform q)
                have hq0 : (0 : Int) ≤ (q : Int) ∧ (q : Int) ≤ (cr : Int) := by omega
                have hq1 : (q : Int) ≤ (cr : Int) := by omega
                have hq2 : ¬ cr = 0 := by omega
                rcases hform with ⟨rfl, rfl, ho0⟩ | ⟨go, rfl, hco⟩
                · obtain rfl : q = 0 := by omega
                  refine wp_region_till 14 (fun w' => Below w1.heap.size w1 w') (fun _ => True) (by kernel_rfl) (HW16.out.drew) trivial ?_
                  show Go_ _ _ _ _ _ _ _ _ _ _ (World.drew _)
                  refine Go_.take (i := 0) (oi := ⟨some 170, Op.move (Operand.tmp 29), 75, _, _, none⟩) (v := ?_) rfl (by kernel_rfl) (by kernel_rfl) (by kernel_rfl) rfl (fun _ _ _ h => h) (Or.inl ⟨by rfl, ?_⟩) ?_
                  rotate_left; · intro w0 _; go_simp; try with_reducible rfl
                  try simp only [Act.put, List.setIfInBounds_toArray, List.set_cons_zero, List.set_cons_succ]
                  refine Go_.take (i := 1) (oi := ⟨some 171, Op.call { callee := Callee.builtin Builtin.len, args := #[Operand.tmp 170], argTypes := #[75] }, 3, _, _, none⟩) (v := ?_) rfl (by kernel_rfl) (by kernel_rfl) (by kernel_rfl) rfl (fun _ _ _ h => h) (Or.inl ⟨by rfl, ?_⟩) ?_
                  rotate_left; · intro w0 hS; have hnoop := hS; go_simp; try with_reducible rfl
                  try simp only [Act.put, List.setIfInBounds_toArray, List.set_cons_zero, List.set_cons_succ]
                  refine Go_.take (i := 2) (oi := ⟨some 172, Op.move (Operand.tmp 28), 3, _, _, none⟩) (v := ?_) rfl (by kernel_rfl) (by kernel_rfl) (by kernel_rfl) rfl (fun _ _ _ h => h) (Or.inl ⟨by rfl, ?_⟩) ?_
                  rotate_left; · intro w0 _; go_simp; try with_reducible rfl
                  try simp only [Act.put, List.setIfInBounds_toArray, List.set_cons_zero, List.set_cons_succ]
                  refine Go_.take (i := 3) (oi := ⟨some 173, Op.binOp BinOp.lss 3 (Operand.tmp 171) (Operand.tmp 172) 3, 4, _, _, none⟩) (v := ?_) rfl (by kernel_rfl) (by kernel_rfl) (by kernel_rfl) rfl (fun _ _ _ h => h) (Or.inl ⟨by rfl, ?_⟩) ?_
                  rotate_left; · intro w0 _; go_simp; try with_reducible rfl
                  try simp only [Act.put, List.setIfInBounds_toArray, List.set_cons_zero, List.set_cons_succ]
                  refine Go_.take (i := 4) (oi := ⟨some 174, Op.move (Operand.tmp 173), 4, _, _, none⟩) (v := ?_) rfl (by kernel_rfl) (by kernel_rfl) (by kernel_rfl) rfl (fun _ _ _ h => h) (Or.inl ⟨by rfl, ?_⟩) ?_
                  rotate_left; · intro w0 _; go_simp; try with_reducible rfl
                  try simp only [Act.put, List.setIfInBounds_toArray, List.set_cons_zero, List.set_cons_succ]
                  refine Go_.take (i := 5) (oi := ⟨some 175, Op.move (Operand.tmp 29), 75, _, _, some (4, false)⟩) (v := ?_) rfl (by kernel_rfl) (by kernel_rfl) (by kernel_rfl) rfl (fun _ _ _ h => h) (Or.inl ⟨by rfl, ?_⟩) ?_
                  rotate_left; · intro w0 _; go_simp; try with_reducible rfl
                  try simp only [Act.put, List.setIfInBounds_toArray, List.set_cons_zero, List.set_cons_succ]
                  refine Go_.take (i := 6) (oi := ⟨some 176, Op.move (Operand.tmp 28), 3, _, _, some (4, false)⟩) (v := ?_) rfl (by kernel_rfl) (by kernel_rfl) (by kernel_rfl) rfl (fun _ _ _ h => h) (Or.inl ⟨by rfl, ?_⟩) ?_
                  rotate_left; · intro w0 _; go_simp; try with_reducible rfl
                  try simp only [Act.put, List.setIfInBounds_toArray, List.set_cons_zero, List.set_cons_succ]
                  refine Go_.take (i := 7) (oi := ⟨some 177, Op.slice 75 (Operand.tmp 175) none (some (Operand.tmp 176)) none, 75, _, _, some (4, false)⟩) (v := ?_) rfl (by kernel_rfl) (by kernel_rfl) (by kernel_rfl) rfl (fun _ _ _ h => h) (Or.inl ⟨by rfl, ?_⟩) ?_
                  rotate_left; · intro w0 _; go_simp; try with_reducible rfl
                  try simp only [Act.put, List.setIfInBounds_toArray, List.set_cons_zero, List.set_cons_succ]
                  refine Go_.take (i := 8) (oi := ⟨some 178, Op.move (Operand.tmp 12), 75, _, _, some (4, false)⟩) (v := ?_) rfl (by kernel_rfl) (by kernel_rfl) (by kernel_rfl) rfl (fun _ _ _ h => h) (Or.inl ⟨by rfl, ?_⟩) ?_
                  rotate_left; · intro w0 _; go_simp; try with_reducible rfl
                  try simp only [Act.put, List.setIfInBounds_toArray, List.set_cons_zero, List.set_cons_succ]
                  refine Go_.take (i := 9) (oi := ⟨some 179, Op.move (Operand.tmp 28), 3, _, _, some (4, false)⟩) (v := ?_) rfl (by kernel_rfl) (by kernel_rfl) (by kernel_rfl) rfl (fun _ _ _ h => h) (Or.inl ⟨by rfl, ?_⟩) ?_
                  rotate_left; · intro w0 _; go_simp; try with_reducible rfl
                  try simp only [Act.put, List.setIfInBounds_toArray, List.set_cons_zero, List.set_cons_succ]
                  refine Go_.take (i := 10) (oi := ⟨some 180, Op.slice 75 (Operand.tmp 178) none (some (Operand.tmp 179)) none, 75, _, _, some (4, false)⟩) (v := ?_) rfl (by kernel_rfl) (by kernel_rfl) (by kernel_rfl) rfl (fun _ _ _ h => h) (Or.inl ⟨by rfl, ?_⟩) ?_
                  rotate_left; · intro w0 _; go_simp; try with_reducible rfl
                  try simp only [Act.put, List.setIfInBounds_toArray, List.set_cons_zero, List.set_cons_succ]
                  refine Go_.step (i := 11) (o := ⟨some 181, Op.call { callee := Callee.value (Operand.func 56), args := #[Operand.tmp 177, Operand.tmp 180], argTypes := #[75, 75] }, 4, _, _, some (4, false)⟩) (by kernel_rfl) rfl (fun K hT hK => ?_)
                  replace hT := hT.1
                  rw [if_pos (by rfl)]
                  go_simp
                  refine (so_segs 0 0 _ _ (o.take 0) (r.take 0) hot hrt3 _ _ (World.drew w16) (by omega) hkk3 ⟨hsg3.out, (HB.out.sr.take 0).below HW16.out.drew, fun s hs => HOO.out.2 s (List.mem_of_mem_take hs), fun s hs => (HB.out.br s (List.mem_of_mem_take hs)).below HW16.out.drew, Below.refl _ _⟩).mono ?_
                  rintro e w17 ⟨rfl, hb17⟩
                  refine hK.out _ _ (Till.of (hT.trans (hb17.mono hT.size))) ?_
                  clear hT hK K
                  refine Go_.take (i := 12) (oi := ⟨some 182, Op.unOp UnOp.not 4 (Operand.tmp 181), 4, _, _, some (4, false)⟩) (v := ?_) rfl (by kernel_rfl) (by kernel_rfl) (by kernel_rfl) rfl (fun _ _ _ h => h) (Or.inl ⟨by rfl, ?_⟩) ?_
                  rotate_left; · intro w0 _; go_simp; try with_reducible rfl
                  try simp only [Act.put, List.setIfInBounds_toArray, List.set_cons_zero, List.set_cons_succ]
                  refine Go_.take (i := 13) (oi := ⟨some 183, Op.pick (Operand.tmp 174) (Operand.const (Value.bool true)) (Operand.tmp 182), 4, _, _, none⟩) (v := ?_) rfl (by kernel_rfl) (by kernel_rfl) (by kernel_rfl) rfl (fun _ _ _ h => h) (Or.inl ⟨by rfl, ?_⟩) ?_
                  rotate_left; · intro w0 _; go_simp; try with_reducible rfl
                  try simp only [Act.put, List.setIfInBounds_toArray, List.set_cons_zero, List.set_cons_succ]
                  refine Go_.doneA (by kernel_rfl) (fun hA17 => ?_)
                  have h23 := (HK.out.belowW hA17).eight
                  have hBt17 := HBT16.out.drew.below hb17
                  have hstr : (convert 24 9 (.slice (some ⟨gt, 0, none⟩) tb.length c14)).run Try.prog w17 = .ok (.string (mkStr t)) w17 := by have h1 := run_str hBt17 c14; rw [HTL.out] at h1; exact h1
                  have hS17 : Hid (Sgs w17 none o ∧ (∀ s ∈ o, Bts w17 s.A s.body)) := Lib.hid ⟨Sgs.below (w := World.drew w16) HOO.out.1 hb17, fun s hs => Bts.below (w := World.drew w16) (HOO.out.2 s hs) hb17⟩
                  have HW17 := Lib.hid hA17
                  clear hA17 hBt17 hb17 hol2 hq0 hq1 hq2
                  go_wp2_with fail
                  refine (sr_ref k t tb.length HTL.out (by omega) rs to cd hA _).mono ?_
                  rintro e w18 ⟨A18, c18, hh, hkh, rfl, hsh, hbh, hb18⟩
                  have HH18 := Lib.hid (And.intro hsh hbh)
                  have HO18 := Lib.hid (And.intro (hS17.out.1.below hb18) (fun s (hs : s ∈ o) => (hS17.out.2 s hs).below hb18))
                  have HW18 := Lib.hid (HW17.out.trans (hb18.mono HW17.out.size))
                  clear hsh hbh hb18 hstr h23 HW17
                  go_wp2_with fail
                  refine (told17 _).mono ?_
                  rintro e w19 ⟨rfl, hb19⟩
                  have hP19 : Hid (SgP w19 none A18 o hh w19) := Lib.hid ⟨HO18.out.1.below hb19, HH18.out.1.below hb19, fun s hs => (HO18.out.2 s hs).below hb19, fun s hs => (HH18.out.2 s hs).below hb19, Below.refl _ _⟩
                  have HW19 := Lib.hid (HW18.out.trans (hb19.mono HW18.out.size))
                  clear hb19 HO18 HH18 HW18
                  go_wp2_with fail
                  refine (so_segs 0 hh.length _ _ o hh (Lib.hid ho0) (Lib.hid rfl) _ _ _ (by omega) (by rw [hko.out, hkh.out]; exact Lib.hid rfl) hP19.out).mono ?_
                  rintro e w20 ⟨rfl, hb20⟩
                  have hfin := HB.out.wh.trans ((HW19.out.trans (hb20.mono HW19.out.size)).mono hz1)
                  clear hb20 hP19
                  go_wp2_with fail
                  go_ret
                  exact ⟨ret_bool17 (by simp), hfin⟩
                · have hq3 : (0 : Int) ≤ (q : Int) ∧ (q : Int) ≤ (c16 : Int) := by omega
                  have hq4 : (q : Int) ≤ (c16 : Int) := by omega
                  refine wp_region_till 14 (fun w' => Below w1.heap.size w1 w') (fun _ => True) (by kernel_rfl) (HW16.out.drew) trivial ?_
                  show Go_ _ _ _ _ _ _ _ _ _ _ (World.drew _)
                  refine Go_.take (i := 0) (oi := ⟨some 170, Op.move (Operand.tmp 29), 75, _, _, none⟩) (v := ?_) rfl (by kernel_rfl) (by kernel_rfl) (by kernel_rfl) rfl (fun _ _ _ h => h) (Or.inl ⟨by rfl, ?_⟩) ?_
                  rotate_left; · intro w0 _; go_simp; try with_reducible rfl
                  try simp only [Act.put, List.setIfInBounds_toArray, List.set_cons_zero, List.set_cons_succ]
                  refine Go_.take (i := 1) (oi := ⟨some 171, Op.call { callee := Callee.builtin Builtin.len, args := #[Operand.tmp 170], argTypes := #[75] }, 3, _, _, none⟩) (v := ?_) rfl (by kernel_rfl) (by kernel_rfl) (by kernel_rfl) rfl (fun _ _ _ h => h) (Or.inl ⟨by rfl, ?_⟩) ?_
                  rotate_left; · intro w0 hS; have hnoop := hS; go_simp; try with_reducible rfl
                  try simp only [Act.put, List.setIfInBounds_toArray, List.set_cons_zero, List.set_cons_succ]
                  refine Go_.take (i := 2) (oi := ⟨some 172, Op.move (Operand.tmp 28), 3, _, _, none⟩) (v := ?_) rfl (by kernel_rfl) (by kernel_rfl) (by kernel_rfl) rfl (fun _ _ _ h => h) (Or.inl ⟨by rfl, ?_⟩) ?_
                  rotate_left; · intro w0 _; go_simp; try with_reducible rfl
                  try simp only [Act.put, List.setIfInBounds_toArray, List.set_cons_zero, List.set_cons_succ]
                  refine Go_.take (i := 3) (oi := ⟨some 173, Op.binOp BinOp.lss 3 (Operand.tmp 171) (Operand.tmp 172) 3, 4, _, _, none⟩) (v := ?_) rfl (by kernel_rfl) (by kernel_rfl) (by kernel_rfl) rfl (fun _ _ _ h => h) (Or.inl ⟨by rfl, ?_⟩) ?_
                  rotate_left; · intro w0 _; go_simp; try with_reducible rfl
                  try simp only [Act.put, List.setIfInBounds_toArray, List.set_cons_zero, List.set_cons_succ]
                  refine Go_.take (i := 4) (oi := ⟨some 174, Op.move (Operand.tmp 173), 4, _, _, none⟩) (v := ?_) rfl (by kernel_rfl) (by kernel_rfl) (by kernel_rfl) rfl (fun _ _ _ h => h) (Or.inl ⟨by rfl, ?_⟩) ?_
                  rotate_left; · intro w0 _; go_simp; try with_reducible rfl
                  try simp only [Act.put, List.setIfInBounds_toArray, List.set_cons_zero, List.set_cons_succ]
                  refine Go_.take (i := 5) (oi := ⟨some 175, Op.move (Operand.tmp 29), 75, _, _, some (4, false)⟩) (v := ?_) rfl (by kernel_rfl) (by kernel_rfl) (by kernel_rfl) rfl (fun _ _ _ h => h) (Or.inl ⟨by rfl, ?_⟩) ?_
                  rotate_left; · intro w0 _; go_simp; try with_reducible rfl
                  try simp only [Act.put, List.setIfInBounds_toArray, List.set_cons_zero, List.set_cons_succ]
                  refine Go_.take (i := 6) (oi := ⟨some 176, Op.move (Operand.tmp 28), 3, _, _, some (4, false)⟩) (v := ?_) rfl (by kernel_rfl) (by kernel_rfl) (by kernel_rfl) rfl (fun _ _ _ h => h) (Or.inl ⟨by rfl, ?_⟩) ?_
                  rotate_left; · intro w0 _; go_simp; try with_reducible rfl
                  try simp only [Act.put, List.setIfInBounds_toArray, List.set_cons_zero, List.set_cons_succ]
                  refine Go_.take (i := 7) (oi := ⟨some 177, Op.slice 75 (Operand.tmp 175) none (some (Operand.tmp 176)) none, 75, _, _, some (4, false)⟩) (v := ?_) rfl (by kernel_rfl) (by kernel_rfl) (by kernel_rfl) rfl (fun _ _ _ h => h) (Or.inl ⟨by rfl, ?_⟩) ?_
                  rotate_left; · intro w0 _; go_simp; try with_reducible rfl
                  try simp only [Act.put, List.setIfInBounds_toArray, List.set_cons_zero, List.set_cons_succ]
                  refine Go_.take (i := 8) (oi := ⟨some 178, Op.move (Operand.tmp 12), 75, _, _, some (4, false)⟩) (v := ?_) rfl (by kernel_rfl) (by kernel_rfl) (by kernel_rfl) rfl (fun _ _ _ h => h) (Or.inl ⟨by rfl, ?_⟩) ?_
                  rotate_left; · intro w0 _; go_simp; try with_reducible rfl
                  try simp only [Act.put, List.setIfInBounds_toArray, List.set_cons_zero, List.set_cons_succ]
                  refine Go_.take (i := 9) (oi := ⟨some 179, Op.move (Operand.tmp 28), 3, _, _, some (4, false)⟩) (v := ?_) rfl (by kernel_rfl) (by kernel_rfl) (by kernel_rfl) rfl (fun _ _ _ h => h) (Or.inl ⟨by rfl, ?_⟩) ?_
                  rotate_left; · intro w0 _; go_simp; try with_reducible rfl
                  try simp only [Act.put, List.setIfInBounds_toArray, List.set_cons_zero, List.set_cons_succ]
                  refine Go_.take (i := 10) (oi := ⟨some 180, Op.slice 75 (Operand.tmp 178) none (some (Operand.tmp 179)) none, 75, _, _, some (4, false)⟩) (v := ?_) rfl (by kernel_rfl) (by kernel_rfl) (by kernel_rfl) rfl (fun _ _ _ h => h) (Or.inl ⟨by rfl, ?_⟩) ?_
                  rotate_left; · intro w0 _; go_simp; try with_reducible rfl
                  try simp only [Act.put, List.setIfInBounds_toArray, List.set_cons_zero, List.set_cons_succ]
                  refine Go_.step (i := 11) (o := ⟨some 181, Op.call { callee := Callee.value (Operand.func 56), args := #[Operand.tmp 177, Operand.tmp 180], argTypes := #[75, 75] }, 4, _, _, some (4, false)⟩) (by kernel_rfl) rfl (fun K hT hK => ?_)
                  replace hT := hT.1
                  rw [if_pos (by rfl)]
                  go_simp
                  refine (so_segs q q _ _ (o.take q) (r.take q) hot hrt3 _ _ (World.drew w16) (by omega) hkk3 ⟨hsg3.out, (HB.out.sr.take q).below HW16.out.drew, fun s hs => HOO.out.2 s (List.mem_of_mem_take hs), fun s hs => (HB.out.br s (List.mem_of_mem_take hs)).below HW16.out.drew, Below.refl _ _⟩).mono ?_
                  rintro e w17 ⟨rfl, hb17⟩
                  refine hK.out _ _ (Till.of (hT.trans (hb17.mono hT.size))) ?_
                  clear hT hK K
                  refine Go_.take (i := 12) (oi := ⟨some 182, Op.unOp UnOp.not 4 (Operand.tmp 181), 4, _, _, some (4, false)⟩) (v := ?_) rfl (by kernel_rfl) (by kernel_rfl) (by kernel_rfl) rfl (fun _ _ _ h => h) (Or.inl ⟨by rfl, ?_⟩) ?_
                  rotate_left; · intro w0 _; go_simp; try with_reducible rfl
                  try simp only [Act.put, List.setIfInBounds_toArray, List.set_cons_zero, List.set_cons_succ]
                  refine Go_.take (i := 13) (oi := ⟨some 183, Op.pick (Operand.tmp 174) (Operand.const (Value.bool true)) (Operand.tmp 182), 4, _, _, none⟩) (v := ?_) rfl (by kernel_rfl) (by kernel_rfl) (by kernel_rfl) rfl (fun _ _ _ h => h) (Or.inl ⟨by rfl, ?_⟩) ?_
                  rotate_left; · intro w0 _; go_simp; try with_reducible rfl
                  try simp only [Act.put, List.setIfInBounds_toArray, List.set_cons_zero, List.set_cons_succ]
                  refine Go_.doneA (by kernel_rfl) (fun hA17 => ?_)
                  have h23 := (HK.out.belowW hA17).eight
                  have hBt17 := HBT16.out.drew.below hb17
                  have hstr : (convert 24 9 (.slice (some ⟨gt, 0, none⟩) tb.length c14)).run Try.prog w17 = .ok (.string (mkStr t)) w17 := by have h1 := run_str hBt17 c14; rw [HTL.out] at h1; exact h1
                  have hS17 : Hid (Sgs w17 (some ⟨go, 0, none⟩) o ∧ (∀ s ∈ o, Bts w17 s.A s.body)) := Lib.hid ⟨Sgs.below (w := World.drew w16) HOO.out.1 hb17, fun s hs => Bts.below (w := World.drew w16) (HOO.out.2 s hs) hb17⟩
                  have HW17 := Lib.hid hA17
                  clear hA17 hBt17 hb17 hol2 hq0 hq1 hq2
                  go_wp2_with fail
                  refine (sr_ref k t tb.length HTL.out (by omega) rs to cd hA _).mono ?_
                  rintro e w18 ⟨A18, c18, hh, hkh, rfl, hsh, hbh, hb18⟩
                  have HH18 := Lib.hid (And.intro hsh hbh)
                  have HO18 := Lib.hid (And.intro (hS17.out.1.below hb18) (fun s (hs : s ∈ o) => (hS17.out.2 s hs).below hb18))
                  have HW18 := Lib.hid (HW17.out.trans (hb18.mono HW17.out.size))
                  clear hsh hbh hb18 hstr h23 HW17
                  go_wp2_with fail
                  refine (told17 _).mono ?_
                  rintro e w19 ⟨rfl, hb19⟩
                  have hP19 : Hid (SgP w19 (some ⟨go, 0, none⟩) A18 o hh w19) := Lib.hid ⟨HO18.out.1.below hb19, HH18.out.1.below hb19, fun s hs => (HO18.out.2 s hs).below hb19, fun s hs => (HH18.out.2 s hs).below hb19, Below.refl _ _⟩
                  have HW19 := Lib.hid (HW18.out.trans (hb19.mono HW18.out.size))
                  clear hb19 HO18 HH18 HW18
                  go_wp2_with fail
                  refine (so_segs o.length hh.length _ _ o hh (Lib.hid rfl) (Lib.hid rfl) _ _ _ (by omega) (by rw [hko.out, hkh.out]; exact Lib.hid rfl) hP19.out).mono ?_
                  rintro e w20 ⟨rfl, hb20⟩
                  have hfin := HB.out.wh.trans ((HW19.out.trans (hb20.mono HW19.out.size)).mono hz1)
                  clear hb20 hP19
                  go_wp2_with fail
                  go_ret
                  exact ⟨ret_bool17 (by simp), hfin⟩
set_option maxRecDepth 20000 in
set_option maxHeartbeats 4000000 in
theorem srow_bad (k : K8) (A : Option Addr) (l : List SegV) (c : Nat) (cut at_ : Int) (turn : UInt8) (w : World) (hl : l.length ≤ 9223372036854775807) (hS : Sgs w A l) (h : ¬ ((∀ s ∈ l, s.body.length ≤ 300) ∧ l.length ≤ 6)) :
    Calls Try.prog 20 #[.agg #[.int .u32 (W k.k0), .int .u32 (W k.k1), .int .u32 (W k.k2), .int .u32 (W k.k3), .int .u32 (W k.k4), .int .u32 (W k.k5), .int .u32 (W k.k6), .int .u32 (W k.k7)], .slice A l.length c, .int .i64 cut, .int .i64 at_, .int .u8 (turn.toNat : Int)] w fun e w' => e = .returned (.bool true) ∧ Below w.heap.size w w' := by
  have hb0 : Below w.heap.size w (w.alloc (.cells #[.int .u32 (W k.k0), .int .u32 (W k.k1), .int .u32 (W k.k2), .int .u32 (W k.k3), .int .u32 (W k.k4), .int .u32 (W k.k5), .int .u32 (W k.k6), .int .u32 (W k.k7)] 23)) := (Below.refl _ _).alloc (Nat.le_refl _) _
  have hSA := hS.below hb0
  have hd := Lib.hid (decide_eq_false h)
  clear h
  go_enter Try.func20, Try.ntmps20
  go_wp2_with fail
  refine (few_any A l c 6 _ hl hSA).mono ?_
  rintro e w9 ⟨rfl, rfl⟩
  rw [hd.out]
  go_wp2_with fail
  refine (told17 _).mono ?_
  rintro e w1 ⟨rfl, hb1⟩
  go_wp2_with fail
  go_ret
  exact ⟨rfl, hb0.trans (hb1.mono hb0.size)⟩
theorem walk_SealRow (k : K8) (A : Option Addr) (l : List SegV) (c : Nat) (cut at_ : Int) (turn : UInt8) (w : World) (hS : Sgs w A l) (hB : ∀ s ∈ l, SegOk w s) (hlc : l.length ≤ c) (hc : c ≤ maxLen) (_h1 : -9223372036854775808 ≤ cut ∧ cut < 9223372036854775808) (_h2 : -9223372036854775808 ≤ at_ ∧ at_ < 9223372036854775808) :
    Calls Try.prog 20 #[.agg k.vals.toArray, .slice A l.length c, .int .i64 cut, .int .i64 at_, .int .u8 (turn.toNat : Int)] w fun e w' => e = .returned (.bool true) ∧ Below w.heap.size w w' := by
  have hl : l.length ≤ 9223372036854775807 := by simp only [maxLen] at hc; omega
  by_cases hf : (∀ s ∈ l, s.body.length ≤ 300) ∧ l.length ≤ 6
  · exact srow k A l c cut at_ turn w hf.2 (Lib.hid hf.1) hS (Lib.hid fun s hs => (hB s hs).1)
  · exact srow_bad k A l c cut at_ turn w hl hS hf
end Go.Proofs.Ytcdklmicbbcknaa
