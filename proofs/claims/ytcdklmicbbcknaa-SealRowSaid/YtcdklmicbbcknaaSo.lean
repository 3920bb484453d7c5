/-
  append onto a row of segments; segments in a row as bytes; segments in another order: plain laws, and calls said for the walks.
-/
import Derived.Test.YtcdklmicbbcknaaSa
import Derived.Test.YtcdklmicbbcknaaAp
import Derived.Test.YtcdklmicbbcknaaSr
namespace Go.Proofs.Ytcdklmicbbcknaa
open Go Go.RowKit
theorem OwnS.made (w : World) (base : Nat) (hb : base ≤ w.heap.size) (l : List SegV) (hl : l.length ≤ maxLen) : OwnS (w.alloc (.cells (segCells l).toArray 81)) base (some ⟨w.heap.size, 0, none⟩) l.length l := by
  refine ⟨segCells_len l, .inr ⟨w.heap.size, l.length, _, rfl, hb, heap_alloc_new w _, Nat.le_refl _, hl, by rw [List.size_toArray, segCells_len], ?_⟩⟩
  rw [← segCells_len l]; simp
theorem run_appK {w : World} {base : Nat} {A : Option Addr} {c : Nat} {l : List SegV} (h : OwnS w base A c l) {m : List SegV} {b o : Nat} (c2 : Nat) (hnews : ∀ j u, (segCells m)[j]? = some u → w.cell? ⟨b, o + j, none⟩ = some u) (hm0 : 0 < m.length) (hlen : l.length + m.length ≤ 1000000) (hbase : base ≤ w.heap.size) (ty : TypeId) :
    ∃ A' c' w', (Builtin.append_ #[75, 75] ty #[.slice A l.length c, .slice (some ⟨b, o, none⟩) m.length c2]).run Try.prog w = .ok (.slice A' (l ++ m).length c') w' ∧ OwnS w' base A' c' (l ++ m) ∧ OwnS w' base A c l ∧ w.grownBy w' (blk A) := by
  obtain ⟨i, hi, hz, hs, hby⟩ := info_parts info81
  have hnews' : ∀ j u, (segCells m)[j]? = some u → w.cell? ((⟨b, o, none⟩ : Addr).add j) = some u := fun j u hu => by rw [add_plain]; exact hnews j u hu
  have hfm := run_firstCells_some (P := Try.prog) w 4 m.length ⟨b, o, none⟩ m.length c2 (segCells m) (segCells_len m) hnews'
  have hfd := run_firstCells_some (P := Try.prog) w.drew 4 m.length ⟨b, o, none⟩ m.length c2 (segCells m) (segCells_len m) hnews'
  have hl2 : (segCells l ++ segCells m).length = (l.length + m.length) * 4 := by rw [List.length_append, segCells_len, segCells_len, Nat.add_mul]
  have hone : ∀ u ∈ segCells m, u.oneCell' = true := segCells_oneCell m
  have grown : ∀ (old : Nat), old < l.length + m.length → ∀ (row : Option Nat),
      (w.drew.alloc (.cells ((segCells l).toArray ++ (segCells m).toArray ++ Builtin.zeroCells (Value.cells (.agg #[.int .i64 0, .int .i64 0, .bool false, .slice none 0 0])) (grownCap w (l.length + m.length) old 81 - (l.length + m.length))) 81)).ownsRow base 81 4
        (.slice (some ⟨w.heap.size, 0, none⟩) (l.length + m.length) (grownCap w (l.length + m.length) old 81)) (l.length + m.length) (segCells l ++ segCells m) ∧
      w.grownBy (w.drew.alloc (.cells ((segCells l).toArray ++ (segCells m).toArray ++ Builtin.zeroCells (Value.cells (.agg #[.int .i64 0, .int .i64 0, .bool false, .slice none 0 0])) (grownCap w (l.length + m.length) old 81 - (l.length + m.length))) 81)) row := by
    intro old ho row
    have hge := grownCap_ge w (l.length + m.length) old 81
    have hcm : grownCap w (l.length + m.length) old 81 ≤ maxLen := grownCap_le_maxLen w (l.length + m.length) old 81 (by simp only [maxLen]; omega)
    refine ⟨⟨hl2, .inr ⟨w.heap.size, _, _, rfl, hbase, heap_alloc_new w.drew _, hge, hcm, ?_, ?_⟩⟩, ⟨rfl, rfl, rfl, by simp, fun k hk _ => heap_alloc_old w.drew _ hk⟩⟩
    · simp only [Array.size_append, List.size_toArray, size_zeroCells, segCells_len]
      have : (Value.cells (.agg #[.int .i64 0, .int .i64 0, .bool false, .slice none 0 0])).size = 4 := rfl
      rw [this]; omega
    · simp only [Array.toList_append, List.append_assoc]
      rw [← List.append_assoc, ← hl2]
      exact List.take_left
  have fin : ∀ (A' : Option Addr) (c' : Nat) (w' : World), w'.ownsRow base 81 4 (.slice A' (l.length + m.length) c') (l.length + m.length) (segCells l ++ segCells m) → OwnS w' base A' c' (l ++ m) := fun A' c' w' hr => by
    unfold OwnS
    rw [segCells_app, List.length_append]
    exact hr
  have hown := h
  rw [List.length_append]
  rcases h.2 with ⟨hv, h0⟩ | ⟨g, cap, cur, hv, hbg, hg, hnc, hcm, hcs, htake⟩
  · injection hv with e1 e2 e3
    subst e1 e3
    have hln : l = [] := List.eq_nil_of_length_eq_zero h0
    subst hln
    have hm : ¬ m.length = 0 := by omega
    have h63' : ¬ (9223372036854775807 < (m.length : Int)) := by omega
    have h48' : ¬ (281474976710656 < Builtin.nextslicecap m.length 0 * i.bytes) := by rw [nextslicecap_zero (by omega), hby]; omega
    have hgr := grown 0 (by simp; omega) (blk none)
    simp only [List.length_nil, Nat.zero_add] at hgr ⊢
    refine ⟨_, _, _, ?_, fin _ _ _ (by simpa using hgr.1), OwnS.nil _ _, hgr.2⟩
    simp [Builtin.append_, run_underlying Try.underlying75, sizeOf, typeInfo, zeroValue, hi, hz, hs, Builtin.lenOf, hm, h63', h48', Question.forced, run_firstCells_none, hfd, newRow, grownCap, segCells]
  · injection hv with e1 e2 e3
    subst e1 e3
    by_cases hroom : l.length + m.length ≤ c
    · have hst := run_storeCells_at Try.prog g (l.length * 4) 81 (segCells m) 0 cur w hg (by rw [segCells_len]; omega) hone
      simp only [Nat.add_zero] at hst
      have hnew := setRow_heap w g cur (cur.toList.take (l.length * 4) ++ segCells m ++ cur.toList.drop (l.length * 4 + (segCells m).length)).toArray 81 (0, 0) hg
      refine ⟨some ⟨g, 0, none⟩, c, w.setRow g (cur.toList.take (l.length * 4) ++ segCells m ++ cur.toList.drop (l.length * 4 + (segCells m).length)).toArray, ?_, fin _ _ _ ⟨hl2, .inr ⟨g, c, _, rfl, hbg, hnew, hroom, hcm, ?_, ?_⟩⟩, ⟨hown.1, .inr ⟨g, c, _, rfl, hbg, hnew, hnc, hcm, ?_, ?_⟩⟩, ⟨rfl, rfl, rfl, by simp, fun k _ hk => setRow_other w g k _ (fun e => hk (by simp [blk, e]))⟩⟩
      · simp [Builtin.append_, run_underlying Try.underlying75, sizeOf, typeInfo, hi, hs, Builtin.lenOf, hroom, hfm, Addr.add_lit] at hst ⊢
        simp [hst]
      · simp only [List.size_toArray, List.length_append, List.length_take, List.length_drop, Array.length_toList, segCells_len]
        omega
      · rw [htake, ← hl2]
        exact List.take_left
      · simp only [List.size_toArray, List.length_append, List.length_take, List.length_drop, Array.length_toList, segCells_len]
        omega
      · rw [htake, List.append_assoc, ← segCells_len l]
        exact List.take_left
    · have holds : ∀ j u, (segCells l)[j]? = some u → w.cell? ((⟨g, 0, none⟩ : Addr).add j) = some u := hown.cells (g := g) rfl
      have hfo := run_firstCells_some (P := Try.prog) w.drew 4 l.length ⟨g, 0, none⟩ l.length c (segCells l) (segCells_len l) (by simpa using holds)
      have hgr := grown c (by omega) (blk (some ⟨g, 0, none⟩))
      refine ⟨_, _, _, ?_, fin _ _ _ hgr.1, ?_, hgr.2⟩
      · have h63' : ¬ (9223372036854775807 < ((l.length : Int) + (m.length : Int))) := by omega
        have h48' : ¬ (281474976710656 < Builtin.nextslicecap (l.length + m.length) c * i.bytes) := by
          have := growslice_fits (need := l.length + m.length) (old := c) (bytes := i.bytes) (by omega) (by rw [hby]; omega)
          omega
        simp [Builtin.append_, run_underlying Try.underlying75, sizeOf, typeInfo, zeroValue, hi, hz, hs, Builtin.lenOf, hroom, h63', h48', Question.forced, hfo, hfd, newRow, grownCap]
        rw [show ((segCells l ++ segCells m).toArray : Array Value) = (segCells l).toArray ++ (segCells m).toArray by simp, Array.append_assoc]
      · exact hown.below (((Below.refl _ _).drew).alloc (Nat.le_refl _) _)
theorem run_app_zero {w : World} {base : Nat} {A : Option Addr} {c : Nat} {l : List SegV} (h : OwnS w base A c l) {A2 : Option Addr} (c2 : Nat) (ty : TypeId) : (Builtin.append_ #[75, 75] ty #[.slice A l.length c, .slice A2 0 c2]).run Try.prog w = .ok (.slice A l.length c) w := by
  obtain ⟨i, hi, hz, hs, hby⟩ := info_parts info81
  cases A2 with
  | none => exact run_app_none w 75 ty 81 i Try.underlying75 hi _ _ _ h c2
  | some a =>
    have hf0 : (Builtin.firstCells 4 0 (.slice (some a) 0 c2)).run Try.prog w = .ok #[] w := by
      have := run_firstCells_some (P := Try.prog) w 4 0 a 0 c2 [] rfl (by simp)
      simpa using this
    rcases h.2 with ⟨hv, h0⟩ | ⟨g, cap, cur, hv, hbg, hg, hnc, hcm, hcs, htake⟩
    · rw [hv]
      simp [Builtin.append_, run_underlying Try.underlying75, sizeOf, typeInfo, hi, hs, Builtin.lenOf, hf0]
    · rw [hv]
      simp [Builtin.append_, run_underlying Try.underlying75, sizeOf, typeInfo, hi, hs, Builtin.lenOf, hf0, hnc, storeCells]
theorem wp_appK {o : Oper} {a : Act} {K : Act → World → Prop} {Q : Exit → Act → World → Prop} {w : World} {base : Nat} {A : Option Addr} {c : Nat} {l m : List SegV} (s x : Operand)
    (ho : o.op = .call { callee := .builtin .append, args := #[s, x], argTypes := #[75, 75] }) {n : Nat} (hs : a.eval s = .slice A n c) (hn : l.length = n) (h : OwnS w base A c l) {A2 : Option Addr} {c2 n2 : Nat} (hx : a.eval x = .slice A2 n2 c2) (hn2 : m.length = n2) (hm : Sgs w A2 m)
    (hlen : l.length + m.length ≤ 1000000) (hbase : base ≤ w.heap.size)
    (hK : ∀ A' c' r w', Hid (r = l ++ m) → OwnS w' base A' c' r → OwnS w' base A c l → w.grownBy w' (blk A) → K (a.put o.dst (.slice A' r.length c')) w') : o.wp Try.prog a w K Q := by
  subst hn hn2
  have key : ∃ A' c' w', (Builtin.append_ #[75, 75] o.type #[.slice A l.length c, .slice A2 m.length c2]).run Try.prog w = .ok (.slice A' (l ++ m).length c') w' ∧ OwnS w' base A' c' (l ++ m) ∧ OwnS w' base A c l ∧ w.grownBy w' (blk A) := by
    rcases Nat.eq_zero_or_pos m.length with h0 | h0
    · obtain rfl : m = [] := List.eq_nil_of_length_eq_zero h0
      have hz : (Builtin.append_ #[75, 75] o.type #[.slice A l.length c, .slice A2 0 c2]).run Try.prog w = .ok (.slice A l.length c) w := run_app_zero h c2 o.type
      exact ⟨A, c, w, by rw [List.append_nil]; exact hz, by rw [List.append_nil]; exact h, h, ⟨rfl, rfl, rfl, Nat.le_refl _, fun _ _ _ => rfl⟩⟩
    · obtain ⟨b, o', rfl, _, hc⟩ := hm h0
      exact run_appK h c2 hc h0 hlen hbase o.type
  obtain ⟨A', c', w', hr, h2, h3, h4⟩ := key
  unfold Oper.wp execOp
  simp only [ho, resolve, invoke, builtin, Sem.run_bind, Sem.run_pure, Result.andThen_ok, List.map_toArray, List.map_cons, List.map_nil, hs, hx, hr]
  exact hK A' c' _ w' rfl h2 h3 h4
end Go.Proofs.Ytcdklmicbbcknaa

namespace Go.Proofs.Ytcdklmicbbcknaa
open Go Go.RowKit
def SegD.bytes (k : K8) (s : SegD) : List UInt8 := sealL k s.y s.P s.body
def catS (k : K8) (l : List SegD) : List UInt8 := l.flatMap (SegD.bytes k)
def SegD.good (s : SegD) : Prop := 1 ≤ s.y.toNat ∧ s.y.toNat ≤ 3 ∧ s.P ≤ 1000 ∧ s.body.length ≤ 300
theorem catS_app (k : K8) (l m : List SegD) : catS k (l ++ m) = catS k l ++ catS k m := by simp [catS]
theorem catS_take (k : K8) (l : List SegD) (i : Nat) (hi : i < l.length) : catS k (l.take (i + 1)) = catS k (l.take i) ++ (l[i]).bytes k := by
  rw [List.take_succ_eq_append_getElem hi, catS_app]; simp [catS]
theorem catS_split (k : K8) (l : List SegD) (i : Nat) (hi : i < l.length) : catS k l = catS k (l.take i) ++ ((l[i]).bytes k ++ catS k (l.drop (i + 1))) := by
  rw [← List.append_assoc, ← catS_take k l i hi, ← catS_app, List.take_append_drop]
theorem bytes_len (k : K8) (s : SegD) (h : s.good) : (s.bytes k).length ≤ 345 ∧ 11 ≤ (s.bytes k).length := by
  obtain ⟨_, _, hP, hb⟩ := h
  have h1 := putL_18 s.P (by omega)
  have h2 := putL_18 s.body.length (by omega)
  have h3 := putL_pos s.P
  have h4 := putL_pos s.body.length
  unfold SegD.bytes
  rw [sealL, List.length_append, sealB_len, tagL_len]
  omega
theorem catS_len (k : K8) : ∀ (l : List SegD), (∀ s ∈ l, s.good) → (catS k l).length ≤ 345 * l.length
  | [], _ => by simp [catS]
  | s :: l, h => by
    have ih := catS_len k l (fun x hx => h x (List.mem_cons_of_mem _ hx))
    have h1 := (bytes_len k s (h s List.mem_cons_self)).1
    simp only [catS, List.flatMap_cons, List.length_append, List.length_cons] at ih ⊢
    omega
/-- what is read of the i-th, where all is well -/
def okR (k : K8) (D : List SegD) (i : Nat) (hi : i < D.length) : GetR := ⟨(D[i]).y.toNat, (D[i]).P, decide ((D[i]).y.toNat = 3), (D[i]).body, (catS k (D.take (i + 1))).length, 0⟩
theorem getP_at (k : K8) (b : List UInt8) (D : List SegD) (i : Nat) (hi : i < D.length) (hg : (D[i]).good) (post : List UInt8) (hle : (catS k (D.take i)).length ≤ b.length) (hd : b.drop (catS k (D.take i)).length = (D[i]).bytes k ++ post) (place : Int) :
    getP k b (catS k (D.take i)).length place = if ((D[i]).P : Int) ≠ place then failR (catS k (D.take i)).length 2 else okR k D i hi := by
  have hb : b = b.take (catS k (D.take i)).length ++ ((D[i]).bytes k ++ post) := by rw [← hd, List.take_append_drop]
  have hl : (b.take (catS k (D.take i)).length).length = (catS k (D.take i)).length := by rw [List.length_take]; omega
  obtain ⟨h1, h2, h3, h4⟩ := hg
  have h := getP_seal k (b.take (catS k (D.take i)).length) post (D[i]).y (D[i]).P (D[i]).body place h1 h2 (by omega) (by omega)
  rw [hl] at h
  have e : b.take (catS k (D.take i)).length ++ (sealL k (D[i]).y (D[i]).P (D[i]).body ++ post) = b := hb.symm
  rw [e] at h
  rw [h]
  by_cases hp : ((D[i]).P : Int) ≠ place
  · rw [if_pos hp, if_pos hp]
  · rw [if_neg hp, if_neg hp, okR, catS_take k D i hi, List.length_append]
    rfl
def okRs (k : K8) (D : List SegD) (n : Nat) (hn : n ≤ D.length) : List GetR := (List.finRange n).map fun i => okR k D i.1 (by have := i.2; omega)
theorem okRs_len (k : K8) (D : List SegD) (n : Nat) (hn : n ≤ D.length) : (okRs k D n hn).length = n := by simp [okRs]
theorem okRs_succ (k : K8) (D : List SegD) (n : Nat) (hn : n + 1 ≤ D.length) : okRs k D (n + 1) hn = okRs k D n (by omega) ++ [okR k D n (by omega)] := by
  apply List.ext_getElem
  · simp [okRs_len]
  · intro i h1 h2
    rw [okRs_len] at h1
    by_cases hi : i < n
    · rw [List.getElem_append_left (by rw [okRs_len]; exact hi)]
      simp [okRs]
    · obtain rfl : i = n := by omega
      rw [List.getElem_append_right (by rw [okRs_len]; omega)]
      simp [okRs]
theorem okRs_key (k : K8) (D : List SegD) (n : Nat) (hn : n ≤ D.length) : (okRs k D n hn).map GetR.key = (D.take n).map SegD.key := by
  apply List.ext_getElem
  · simp [okRs_len]; omega
  · intro i h1 h2
    simp [okRs, okR, GetR.key, SegD.key]
/-- the first n are read, one by one -/
theorem allP_n (k : K8) (b : List UInt8) (D : List SegD) (f : Nat) : ∀ (n : Nat) (hn : n ≤ D.length), (∀ i (hi : i < n), getP k b (catS k (D.take i)).length (i : Nat) = okR k D i (by omega) ∧ (D[i]'(by omega)).y.toNat ≠ 3) →
    allP k b (f + n) [] 0 = allP k b f (okRs k D n hn) (catS k (D.take n)).length
  | 0, hn, _ => by simp [okRs, catS]
  | n + 1, hn, h => by
    have ih := allP_n k b D (f + 1) n (by omega) (fun i hi => h i (by omega))
    rw [show f + (n + 1) = f + 1 + n by omega, ih, allP, okRs_len]
    obtain ⟨h1, h2⟩ := h n (by omega)
    rw [h1, if_neg (by simp [okR]), if_neg (by simp [okR, h2]), okRs_succ k D n hn]
    rfl
/-- .. and the next one stands at another place -/
theorem all_order (k : K8) (D : List SegD) (hg : ∀ s ∈ D, s.good) (n : Nat) (hn : n < D.length) (hP : ∀ i (hi : i < n), (D[i]'(by omega)).P = i ∧ (D[i]'(by omega)).y.toNat ≠ 3) (hb : (D[n]).P ≠ n) :
    allP k (catS k D) ((catS k D).length + 1 - 0) [] 0 = (okRs k D n (by omega), (catS k (D.take n)).length, 2) := by
  have hle : ∀ i (hi : i < D.length), (catS k (D.take i)).length ≤ (catS k D).length := fun i hi => by
    have := congrArg List.length (catS_split k D i hi)
    rw [List.length_append] at this; omega
  have hdr : ∀ i (hi : i < D.length), (catS k D).drop (catS k (D.take i)).length = (D[i]).bytes k ++ catS k (D.drop (i + 1)) := fun i hi => by
    have h := congrArg (List.drop (catS k (D.take i)).length) (catS_split k D i hi)
    rw [List.drop_left] at h; exact h
  have hget := fun i (hi : i < D.length) (place : Int) => getP_at k (catS k D) D i hi (hg _ (List.getElem_mem hi)) _ (hle i hi) (hdr i hi) place
  have hlen : n + 1 ≤ (catS k D).length + 1 := by
    have : ∀ j, j ≤ n → j ≤ (catS k (D.take j)).length := by
      intro j
      induction j with
      | zero => intro _; omega
      | succ j ih =>
        intro hj
        rw [catS_take k D j (by omega), List.length_append]
        have := ih (by omega)
        have := (bytes_len k D[j] (hg _ (List.getElem_mem _))).2
        omega
    have h1 := this n (Nat.le_refl _)
    have h2 := hle n hn
    omega
  obtain ⟨f, hf⟩ : ∃ f, (catS k D).length + 1 - 0 = (f + 1) + n := ⟨(catS k D).length + 1 - n - 1, by omega⟩
  have e := hget n hn (n : Int)
  rw [if_pos (by omega)] at e
  rw [hf, allP_n k (catS k D) D (f + 1) n (by omega) (fun i hi => ⟨by rw [hget i (by omega), if_neg (by rw [(hP i hi).1]; simp)], (hP i hi).2⟩), allP, okRs_len, e, if_pos (by simp [failR])]
  rfl
theorem so_put (k : K8) (s : SegV) (d : SegD) (h : Hid (s.key = d.key)) (hg : Hid d.good) (w : World) (hB : Bts w s.A s.body) :
    Calls Try.prog 54 #[.agg #[.int .u32 (W k.k0), .int .u32 (W k.k1), .int .u32 (W k.k2), .int .u32 (W k.k3), .int .u32 (W k.k4), .int .u32 (W k.k5), .int .u32 (W k.k6), .int .u32 (W k.k7)], .agg #[.int .i64 s.kind, .int .i64 s.place, .bool s.last, .slice s.A s.body.length s.c]] w fun e w' => ∃ A' c' r, Hid (r = d.bytes k) ∧ e = .returned (.tuple #[.slice A' r.length c', .int .i64 0]) ∧ Bts w' A' r ∧ Below w.heap.size w w' := by
  obtain ⟨k1, p1, l1, A1, b1, c1⟩ := s
  obtain ⟨y, P, body⟩ := d
  have h' := h.out
  simp only [SegV.key, SegD.key, Prod.mk.injEq] at h'
  obtain ⟨rfl, rfl, rfl, rfl⟩ := h'
  obtain ⟨g1, g2, g3, g4⟩ := hg.out
  dsimp only at g1 g2 g3 g4 hB ⊢
  refine (sput_good k y P (decide (y.toNat = 3)) A1 b1 c1 w hB (decide_eq_true ⟨by omega, by omega, by omega, by omega, by omega, ?_⟩)).mono ?_
  · by_cases h3 : y.toNat = 3
    · rw [decide_eq_true h3, decide_eq_true (by omega)]
    · rw [decide_eq_false h3, decide_eq_false (by omega)]
  · rintro e w' ⟨A', c', r, hr, rfl, ho, hb⟩
    exact ⟨A', c', r, hr, rfl, ho.bts, hb⟩
theorem so_all (k : K8) (D : List SegD) (n : Nat) (hn : Hid ((∀ s ∈ D, s.good) ∧ ∃ (h : n < D.length), (∀ i (hi : i < n), (D[i]'(by omega)).P = i ∧ (D[i]'(by omega)).y.toNat ≠ 3) ∧ (D[n]).P ≠ n)) (A : Option Addr) (l : List UInt8) (c : Nat) (w : World) (hl : Hid (l = catS k D)) (hll : l.length ≤ 100000) (hc : l.length ≤ c) (hB : Bts w A l) :
    Calls Try.prog 55 #[.agg #[.int .u32 (W k.k0), .int .u32 (W k.k1), .int .u32 (W k.k2), .int .u32 (W k.k3), .int .u32 (W k.k4), .int .u32 (W k.k5), .int .u32 (W k.k6), .int .u32 (W k.k7)], .slice A l.length c, .int .i64 0] w fun e w' => ∃ A' c' segs to, Hid (segs.map SegV.key = (D.take n).map SegD.key) ∧ Hid (segs.length = n) ∧ e = .returned (.tuple #[.slice A' n c', .int .i64 to, .int .i64 2]) ∧ Sgs w' A' segs ∧ (∀ s ∈ segs, Bts w' s.A s.body) ∧ Below w.heap.size w w' := by
  obtain ⟨hg, hn1, hP, hb⟩ := hn.out
  refine (all_any k A l c 0 w hll hc hB (by omega)).mono ?_
  rintro e w' ⟨A', c', segs, rs, to, cd, hA, hk, rfl, hO, hS, hbw⟩
  have h1 := all_order k D hg n hn1 hP hb
  rw [← hl.out] at h1
  have h2 := h1.symm.trans hA.out
  simp only [Prod.mk.injEq] at h2
  obtain ⟨rfl, rfl, rfl⟩ := h2
  have hsl : segs.length = n := by
    have := congrArg List.length hk.out
    simpa [okRs_len] using this
  refine ⟨A', c', segs, _, Lib.hid (by rw [hk.out, okRs_key]), hsl, by rw [hsl]; rfl, hO.sgs, fun s hs => (hS s hs).bts, hbw⟩
theorem so_segs (N N2 : Nat) (A A2 : Option Addr) (l m : List SegV) (hl : Hid (l.length = N)) (hm : Hid (m.length = N2)) (c c2 : Nat) (w : World) (hN : N ≤ 1000000) (hk : Hid (l.map SegV.key = m.map SegV.key)) (hS : SgP w A A2 l m w) :
    Calls Try.prog 56 #[.slice A N c, .slice A2 N2 c2] w fun e w' => e = .returned (.bool true) ∧ Below w.heap.size w w' := by
  have h1 := hl.out
  have h2 := hm.out
  subst h1 h2
  exact segs_true A A2 l m c c2 w (by omega) hk hS
theorem so_row (A : Option Addr) (l : List SegV) (c : Nat) (w : World) (hl : l.length ≤ 1000) (hS : Sgs w A l) (hB : ∀ s ∈ l, Bts w s.A s.body) :
    Calls Try.prog 53 #[.slice A l.length c] w fun e w' => ∃ g c' r, Hid (r.map SegV.key = (rowD l).map SegD.key) ∧ Hid (r.length = l.length + 1) ∧ e = .returned (.slice (some ⟨g, 0, none⟩) (l.length + 1) c') ∧ l.length + 1 ≤ c' ∧ Sgs w' (some ⟨g, 0, none⟩) r ∧ (∀ s ∈ r, Bts w' s.A s.body) ∧ Below w.heap.size w w' := by
  refine (row_any A l c w hl hS hB).mono ?_
  rintro e w' ⟨A', c', r, hk, rfl, ho, hb, hbw⟩
  have hrl : r.length = l.length + 1 := by
    have := congrArg List.length hk.out
    simpa [rowD_len] using this
  have ho2 := ho
  rcases ho2.2 with ⟨_, h0⟩ | ⟨g, cap, cur, hv, _, _, hnc, _⟩
  · omega
  · injection hv with e1 _ e3
    subst e1 e3
    exact ⟨g, c', r, hk, hrl, by rw [hrl], by omega, ho.sgs, hb, hbw⟩
theorem OwnS.grownB {w w' : World} {base b2 : Nat} {A A2 : Option Addr} {c c2 : Nat} {l : List UInt8} {m : List SegV} (h : OwnS w base A c m) (h2 : Own w b2 A2 c2 l) (hg : w.grownBy w' (blk A2)) : OwnS w' base A c m := by
  refine h.kept hg ?_
  rcases h.2 with ⟨hv, _⟩ | ⟨g, cap, cur, hv, _, hh, _⟩
  · injection hv with e _ _
    subst e
    exact .inl rfl
  · injection hv with e _ _
    subst e
    rcases h2.2 with ⟨hv2, _⟩ | ⟨g2, cap2, cur2, hv2, _, hh2, _⟩
    · injection hv2 with e2 _ _
      subst e2
      exact .inr (by simp [blk])
    · injection hv2 with e2 _ _
      subst e2
      refine .inr fun e => ?_
      simp only [blk, Option.map_some, Option.some.injEq] at e
      subst e
      rw [hh] at hh2
      simp at hh2
theorem wpList_appN {ops : Array Oper} {rest : List Oper} {o : Oper} {a : Act} {Q : Exit → Act → World → Prop} {w : World} {base : Nat} {A : Option Addr} {c : Nat} {l m : List SegV} (hgd : o.guard = none) (s x : Operand)
    (ho : o.op = .call { callee := .builtin .append, args := #[s, x], argTypes := #[75, 75] }) {n : Nat} (hs : a.eval s = .slice A n c) (hn : l.length = n) (h : OwnS w base A c l) {A2 : Option Addr} {c2 n2 : Nat} (hx : a.eval x = .slice A2 n2 c2) (hn2 : m.length = n2) (hm : Sgs w A2 m)
    (hlen : l.length + m.length ≤ 1000000) (hbase : base ≤ w.heap.size)
    (hK : ∀ A' c' r w', Hid (r = l ++ m) → OwnS w' base A' c' r → w.grownBy w' (blk A) → wpList Try.prog ops Q rest (a.put o.dst (.slice A' r.length c')) w') : wpList Try.prog ops Q (o :: rest) a w :=
  wpList_plain hgd fun _ hK' => wp_appK s x ho hs hn h hx hn2 hm hlen hbase fun A' c' r w' h1 h2 _ h4 => hK' _ _ (hK A' c' r w' h1 h2 h4)
end Go.Proofs.Ytcdklmicbbcknaa

namespace Go.Proofs.Ytcdklmicbbcknaa
open Go Go.RowKit
theorem rowD_at (l : List SegV) (i : Nat) (hi : i < l.length) : (rowD l)[i]'(by rw [rowD_len]; omega) = ⟨rowY l[i].kind, i, l[i].body⟩ := by
  unfold rowD
  rw [List.getElem_append_left (by rw [rowH_len]; exact hi)]
  simp [rowH]
theorem rowD_last (l : List SegV) : (rowD l)[l.length]'(by rw [rowD_len]; omega) = ⟨3, l.length, [122]⟩ := by
  unfold rowD
  rw [List.getElem_append_right (by rw [rowH_len]; omega)]
  simp [rowH_len]
theorem rowD_P (l : List SegV) (i : Nat) (hi : i < (rowD l).length) : ((rowD l)[i]).P = i := by
  have h := rowD_len l
  by_cases h2 : i < l.length
  · rw [rowD_at l i h2]
  · obtain rfl : i = l.length := by omega
    rw [rowD_last l]
theorem rowY_ne (kd : Int) : (rowY kd).toNat ≠ 3 ∧ 1 ≤ (rowY kd).toNat ∧ (rowY kd).toNat ≤ 3 := by
  unfold rowY
  split <;> decide
theorem rowD_good (l : List SegV) (hl : l.length ≤ 6) (hb : ∀ s ∈ l, s.body.length ≤ 300) : ∀ s ∈ rowD l, s.good := fun s hs => by
  obtain ⟨i, hi, rfl⟩ := List.getElem_of_mem hs
  have h := rowD_len l
  by_cases h2 : i < l.length
  · rw [rowD_at l i h2]
    have hy := rowY_ne l[i].kind
    exact ⟨hy.2.1, hy.2.2, by show i ≤ 1000; omega, hb _ (List.getElem_mem h2)⟩
  · obtain rfl : i = l.length := by omega
    rw [rowD_last l]
    exact ⟨show 1 ≤ (3 : UInt8).toNat by decide, show (3 : UInt8).toNat ≤ 3 by decide, by show l.length ≤ 1000; omega, show 1 ≤ 300 by omega⟩
theorem ord_of (l : List SegV) (hl : l.length ≤ 6) (hb : ∀ s ∈ l, s.body.length ≤ 300) (n : Nat) (hn : n ≤ l.length) (x : SegD) (rest D : List SegD) (hD : D = (rowD l).take n ++ x :: rest) (hx : x.P ≠ n) (hxg : x ∈ rowD l) (hr : ∀ s ∈ rest, s ∈ rowD l) :
    ((∀ s ∈ D, s.good) ∧ ∃ (h : n < D.length), (∀ i (hi : i < n), (D[i]'(by omega)).P = i ∧ (D[i]'(by omega)).y.toNat ≠ 3) ∧ (D[n]).P ≠ n) ∧ D.take n = (rowD l).take n := by
  have hg := rowD_good l hl hb
  have hrl := rowD_len l
  have htl : ((rowD l).take n).length = n := by rw [List.length_take]; omega
  subst hD
  refine ⟨⟨fun s hs => ?_, by rw [List.length_append, htl, List.length_cons]; omega, fun i hi => ?_, ?_⟩, ?_⟩
  · rcases List.mem_append.1 hs with h | h
    · exact hg s (List.mem_of_mem_take h)
    · rcases List.mem_cons.1 h with rfl | h
      · exact hg _ hxg
      · exact hg s (hr s h)
  · have e : ((rowD l).take n ++ x :: rest)[i]'(by rw [List.length_append, htl]; omega) = (rowD l)[i]'(by omega) := by
      rw [List.getElem_append_left (by omega), List.getElem_take]
    rw [e]
    refine ⟨rowD_P l i (by omega), ?_⟩
    rw [rowD_at l i (by omega)]
    exact (rowY_ne _).1
  · have e : ((rowD l).take n ++ x :: rest)[n]'(by rw [List.length_append, htl, List.length_cons]; omega) = x := by
      rw [List.getElem_append_right (by omega)]
      simp [htl]
    rw [e]; exact hx
  · rw [List.take_append_of_le_length (by omega), List.take_of_length_le (by omega)]
theorem ord_0 (l : List SegV) (hl : l.length ≤ 6) (hb : ∀ s ∈ l, s.body.length ≤ 300) (wi : Nat) (hw : wi < l.length) (h0 : wi < (rowD l).length) (h1 : wi + 1 < (rowD l).length) (D : List SegD) (hD : D = (rowD l).take wi ++ [(rowD l)[wi + 1], (rowD l)[wi]] ++ (rowD l).drop (wi + 2)) :
    ((∀ s ∈ D, s.good) ∧ ∃ (h : wi < D.length), (∀ i (hi : i < wi), (D[i]'(by omega)).P = i ∧ (D[i]'(by omega)).y.toNat ≠ 3) ∧ (D[wi]).P ≠ wi) ∧ D.take wi = (rowD l).take wi := by
  refine ord_of l hl hb wi (by omega) (rowD l)[wi + 1] ((rowD l)[wi] :: (rowD l).drop (wi + 2)) D (by rw [hD]; simp) (by rw [rowD_P]; omega) (List.getElem_mem _) (fun s hs => ?_)
  rcases List.mem_cons.1 hs with rfl | h
  · exact List.getElem_mem _
  · exact List.mem_of_mem_drop h
theorem ord_1 (l : List SegV) (hl : l.length ≤ 6) (hb : ∀ s ∈ l, s.body.length ≤ 300) (wi : Nat) (hw : wi < l.length) (D : List SegD) (hD : D = (rowD l).take wi ++ (rowD l).drop (wi + 1)) :
    ((∀ s ∈ D, s.good) ∧ ∃ (h : wi < D.length), (∀ i (hi : i < wi), (D[i]'(by omega)).P = i ∧ (D[i]'(by omega)).y.toNat ≠ 3) ∧ (D[wi]).P ≠ wi) ∧ D.take wi = (rowD l).take wi := by
  have h1 : wi + 1 < (rowD l).length := by rw [rowD_len]; omega
  refine ord_of l hl hb wi (by omega) (rowD l)[wi + 1] ((rowD l).drop (wi + 2)) D (by rw [hD, List.drop_eq_getElem_cons h1]) (by rw [rowD_P]; omega) (List.getElem_mem _) (fun s hs => List.mem_of_mem_drop hs)
theorem ord_2 (l : List SegV) (hl : l.length ≤ 6) (hb : ∀ s ∈ l, s.body.length ≤ 300) (wi : Nat) (hw : wi < l.length) (h0 : wi < (rowD l).length) (D : List SegD) (hD : D = (rowD l).take wi ++ [(rowD l)[wi], (rowD l)[wi]] ++ (rowD l).drop (wi + 1)) :
    ((∀ s ∈ D, s.good) ∧ ∃ (h : wi + 1 < D.length), (∀ i (hi : i < wi + 1), (D[i]'(by omega)).P = i ∧ (D[i]'(by omega)).y.toNat ≠ 3) ∧ (D[wi + 1]).P ≠ wi + 1) ∧ D.take (wi + 1) = (rowD l).take (wi + 1) := by
  refine ord_of l hl hb (wi + 1) (by omega) (rowD l)[wi] ((rowD l).drop (wi + 1)) D (by rw [hD, List.take_succ_eq_append_getElem h0]; simp only [List.append_assoc, List.cons_append, List.nil_append]) (by rw [rowD_P]; omega) (List.getElem_mem _) (fun s hs => List.mem_of_mem_drop hs)
/-- what the walk keeps of the row -/
structure OrB (w w1 : World) (g : Nat) (k : K8) (r : List SegV) : Prop where
  kh : Holds w1 (w.heap.size + 1) 28 [.int .u32 (W k.k0), .int .u32 (W k.k1), .int .u32 (W k.k2), .int .u32 (W k.k3), .int .u32 (W k.k4), .int .u32 (W k.k5), .int .u32 (W k.k6), .int .u32 (W k.k7)]
  sr : Sgs w1 (some ⟨g, 0, none⟩) r
  br : ∀ s ∈ r, Bts w1 s.A s.body
  wh : Below w.heap.size w w1
theorem Holds.belowW {w w' : World} {g : Nat} {t : TypeId} {cs : List Value} (h : Holds w g t cs) (hb : Below w.heap.size w w') : Holds w' g t cs := h.below hb h.lt
theorem Sgs.take {w : World} {g : Nat} {r : List SegV} (h : Sgs w (Option.some ⟨g, 0, none⟩) r) (n : Nat) : Sgs w (Option.some ⟨g, 0, none⟩) (r.take n) := by
  by_cases hn : n ≤ r.length
  · have := h.part rfl 0 n (by omega)
    simpa using this
  · rw [List.take_of_length_le (by omega)]; exact h
theorem Sgs.dropAt {w : World} {g : Nat} {r : List SegV} (h : Sgs w (Option.some ⟨g, 0, none⟩) r) (n : Nat) (hn : n ≤ r.length) : Sgs w (Option.some ⟨g, n * 4, none⟩) (r.drop n) := by
  have := h.part rfl n (r.length - n) (by omega)
  rw [Nat.zero_add, Nat.mul_comm] at this
  rwa [List.take_of_length_le (by simp)] at this
theorem mem_map_key {r o : List SegV} {w : World} (hb : ∀ s ∈ r, Bts w s.A s.body) (ho : ∀ s ∈ o, s ∈ r) : ∀ s ∈ o, Bts w s.A s.body := fun s hs => hb s (ho s hs)
end Go.Proofs.Ytcdklmicbbcknaa
