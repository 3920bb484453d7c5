/-
  seal.Get: what it comes to at any place in the bytes; seal.All as a plain function, and its walk.
-/
import Derived.Test.YtcdklmicbbcknaaSw
import Derived.Test.YtcdklmicbbcknaaSx
import Derived.Test.YtcdklmicbbcknaaSq
namespace Go.Proofs.Ytcdklmicbbcknaa
open Go Go.RowKit
set_option maxRecDepth 20000 in
set_option maxHeartbeats 8000000 in
theorem sget_0 (k : K8) (A : Option Addr) (n c : Nat) (at_ : Nat) (place : Int) (w : World) (h : n < at_) :
    Calls Try.prog 59 #[.agg k.vals.toArray, .slice A n c, .int .i64 at_, .int .i64 place] w fun e w' => e = .returned (.tuple #[zseg, .int .i64 at_, .int .i64 1]) ∧ Below w.heap.size w w' := by
  have hb0 : Below w.heap.size w ((w.alloc (.cells k.vals.toArray 28)).alloc (.cells #[.int .i64 0, .int .i64 0, .bool false, .slice none 0 0] 81)) := ((Below.refl _ _).alloc (Nat.le_refl _) _).alloc (by simp) _
  unfold K8.vals at *
  go_enter Try.func59, Try.ntmps59
  go_wp2_with fail
  exact bodyPost_ret (v := .tuple #[zseg, .int .i64 at_, .int .i64 1]) (by simp [results, Try.results59, go_sem, zseg]) rfl ⟨rfl, hb0⟩
end Go.Proofs.Ytcdklmicbbcknaa

namespace Go.Proofs.Ytcdklmicbbcknaa
open Go Go.RowKit
theorem numL_ok (b : List UInt8) (at_ most n t : Nat) (hat : at_ ≤ b.length) (h : numL b at_ most = (n, t, 0)) : at_ < t ∧ t ≤ b.length ∧ n ≤ most := by
  unfold numL at h
  obtain ⟨n', t', c', hr⟩ : ∃ n' t' c', readL b at_ = (n', t', c') := ⟨_, _, _, rfl⟩
  rw [hr] at h
  simp only [Prod.mk.injEq] at h
  obtain ⟨rfl, rfl, h3⟩ := h
  by_cases hc : c' = 0
  · subst hc
    by_cases hb : most < n'
    · rw [if_pos ⟨rfl, hb⟩] at h3; cases h3
    · obtain ⟨v, h1, h2, h3, _, h5⟩ := rd_once b at_ 9 0 0 n' t' (by omega) (by omega) (by omega) (by simpa [readL] using hr)
      have hp := putL_pos v
      have hl := congrArg List.length h3
      simp only [List.length_append, List.length_drop, Nat.mul_zero, Nat.add_zero] at hl h2
      omega
  · rw [if_neg (fun h => hc h.1)] at h3; exact absurd h3 hc
theorem getP_to (k : K8) (b : List UInt8) (at_ : Nat) (place : Int) (hat : at_ ≤ b.length) (h : (getP k b at_ place).code = 0) : at_ < (getP k b at_ place).to ∧ (getP k b at_ place).to ≤ b.length := by
  unfold getP at h ⊢
  by_cases h1 : at_ = b.length
  · rw [if_pos h1] at h; exact absurd h (by simp [failR])
  · rw [if_neg h1] at h ⊢
    by_cases h2 : (b.getD at_ 0).toNat < 1 ∨ 3 < (b.getD at_ 0).toNat
    · rw [if_pos h2] at h; exact absurd h (by simp [failR])
    · rw [if_neg h2] at h ⊢
      obtain ⟨P, t, cd, hN⟩ : ∃ P t cd, numL b (at_ + 1) 1048576 = (P, t, cd) := ⟨_, _, _, rfl⟩
      rw [hN] at h ⊢
      dsimp only at h ⊢
      by_cases h3 : cd = 0
      · subst h3
        rw [if_neg (by simp)] at h ⊢
        obtain ⟨n, t2, cd2, hN2⟩ : ∃ n t2 cd2, numL b t 12100 = (n, t2, cd2) := ⟨_, _, _, rfl⟩
        rw [hN2] at h ⊢
        dsimp only at h ⊢
        have ha := numL_ok b _ _ _ _ (by omega) hN
        by_cases h4 : cd2 = 0
        · subst h4
          rw [if_neg (by simp)] at h ⊢
          have hb := numL_ok b _ _ _ _ (by omega) hN2
          by_cases h5 : b.length - t2 < n + 8
          · rw [if_pos h5] at h; exact absurd h (by simp [failR])
          · rw [if_neg h5] at h ⊢
            by_cases h6 : tagL k P ((b.drop at_).take (t2 + n - at_)) ≠ (b.drop (t2 + n)).take 8
            · rw [if_pos h6] at h; exact absurd h (by simp [failR])
            · rw [if_neg h6] at h ⊢
              by_cases h7 : (P : Int) ≠ place
              · rw [if_pos h7] at h; exact absurd h (by simp [failR])
              · rw [if_neg h7] at h ⊢
                dsimp only
                omega
        · rw [if_pos h4] at h; exact absurd h h4
      · rw [if_pos h3] at h; exact absurd h h3
def segR (R : GetR) (A : Option Addr) (c : Nat) : Value := .agg #[.int .i64 (R.kind : Int), .int .i64 (R.place : Int), .bool R.last, .slice A R.body.length c]
theorem sget_any (k : K8) (A : Option Addr) (l : List UInt8) (c at_ : Nat) (place : Int) (w : World) (hl : l.length ≤ 100000) (hlc : l.length ≤ c) (hB : Bts w A l) (hat : at_ ≤ l.length) (R : GetR) (hR : Hid (R = getP k l at_ place)) :
    Calls Try.prog 59 #[.agg k.vals.toArray, .slice A l.length c, .int .i64 at_, .int .i64 place] w fun e w' => ∃ A' c', e = .returned (.tuple #[segR R A' c', .int .i64 (R.to : Int), .int .i64 (R.code : Int)]) ∧ Own w' w.heap.size A' c' R.body ∧ Below w.heap.size w w' := by
  have fail : ∀ cd : Nat, R = failR at_ cd → Calls Try.prog 59 #[.agg k.vals.toArray, .slice A l.length c, .int .i64 at_, .int .i64 place] w (fun e w' => e = .returned (.tuple #[zseg, .int .i64 at_, .int .i64 cd]) ∧ Below w.heap.size w w') →
      Calls Try.prog 59 #[.agg k.vals.toArray, .slice A l.length c, .int .i64 at_, .int .i64 place] w fun e w' => ∃ A' c', e = .returned (.tuple #[segR R A' c', .int .i64 (R.to : Int), .int .i64 (R.code : Int)]) ∧ Own w' w.heap.size A' c' R.body ∧ Below w.heap.size w w' := by
    intro cd hr hc
    refine hc.mono ?_
    rintro e w' ⟨rfl, hb⟩
    refine ⟨none, 0, by rw [hr]; rfl, by rw [hr]; exact Own.nil _ _, hb⟩
  have hR' := hR.out
  unfold getP at hR'
  by_cases h1 : at_ = l.length
  · rw [if_pos h1] at hR'
    have h := sget_1 k A l c at_ place w (by omega) hB (.inl h1)
    rw [if_pos h1] at h
    exact fail 5 hR' h
  rw [if_neg h1] at hR'
  by_cases h2 : (l.getD at_ 0).toNat < 1 ∨ 3 < (l.getD at_ 0).toNat
  · rw [if_pos h2] at hR'
    have h := sget_1 k A l c at_ place w (by omega) hB (.inr ⟨by omega, h2⟩)
    rw [if_neg h1] at h
    exact fail 3 hR' h
  rw [if_neg h2] at hR'
  obtain ⟨P, t, cd, hN⟩ : ∃ P t cd, numL l (at_ + 1) 1048576 = (P, t, cd) := ⟨_, _, _, rfl⟩
  rw [hN] at hR'
  dsimp only at hR'
  by_cases h3 : cd = 0
  case neg =>
    rw [if_pos h3] at hR'
    exact fail cd hR' (sget_2 k A l c at_ place w (by omega) hB (by omega) _ rfl (by omega) (by omega) P t cd hN h3)
  subst h3
  rw [if_neg (by simp)] at hR'
  obtain ⟨n, t2, cd2, hN2⟩ : ∃ n t2 cd2, numL l t 12100 = (n, t2, cd2) := ⟨_, _, _, rfl⟩
  rw [hN2] at hR'
  dsimp only at hR'
  have ha := numL_ok l _ _ _ _ (by omega) hN
  by_cases h4 : cd2 = 0
  case neg =>
    rw [if_pos h4] at hR'
    exact fail cd2 hR' (sget_3 k A l c at_ place w (by omega) hB (by omega) _ rfl (by omega) (by omega) P t hN ha.2.1 n t2 cd2 hN2 h4)
  subst h4
  rw [if_neg (by simp)] at hR'
  have hb := numL_ok l _ _ _ _ ha.2.1 hN2
  by_cases h5 : l.length - t2 < n + 8
  · rw [if_pos h5] at hR'
    exact fail 5 hR' (sget_4 k A l c at_ place w (by omega) hB (by omega) _ rfl (by omega) (by omega) P t hN ha.2.1 n t2 hN2 hb.2.1 h5)
  rw [if_neg h5] at hR'
  obtain ⟨b, o, rfl, _, _⟩ := hB (by omega)
  by_cases h6 : tagL k P ((l.drop at_).take (t2 + n - at_)) ≠ (l.drop (t2 + n)).take 8
  · rw [if_pos h6] at hR'
    exact fail 4 hR' (sget_5 k b o l c at_ place w hl hlc hB (by omega) _ rfl (by omega) (by omega) P t hN ha.2.1 (by omega) n t2 hN2 hb.2.1 hb.1 (by omega) (decide_eq_false h6))
  rw [if_neg h6] at hR'
  have h6' := Classical.not_not.1 h6
  by_cases h7 : (P : Int) ≠ place
  · rw [if_pos h7] at hR'
    exact fail 2 hR' (sget_6 k b o l c at_ place w hl hlc hB (by omega) _ rfl (by omega) (by omega) P t hN ha.2.1 (by omega) n t2 hN2 hb.2.1 hb.1 (by omega) (decide_eq_true h6') (beq_eq_false_iff_ne.2 h7))
  rw [if_neg h7] at hR'
  obtain rfl := Classical.not_not.1 h7
  refine (sget_7 k b o l c at_ w hl hlc hB (by omega) _ rfl (by omega) (by omega) P t hN ha.2.1 (by omega) n t2 hN2 hb.2.1 hb.1 (by omega) (decide_eq_true h6')).mono ?_
  rintro e w' ⟨A', c', X, hX, rfl, ho, hbw⟩
  obtain rfl := hX.out
  refine ⟨A', c', ?_, ?_, hbw⟩
  · rw [hR']
    have hq : (((l.getD at_ 0).toNat : Int) == 3) = decide ((l.getD at_ 0).toNat = 3) := by
      by_cases hy : (l.getD at_ 0).toNat = 3
      · rw [hy]; rfl
      · rw [decide_eq_false hy]; exact beq_eq_false_iff_ne.2 (by omega)
    simp only [segR]
    rw [hq]
    rfl
  · rw [hR']; exact ho
/-! ### seal.All -/
def allP (k : K8) (b : List UInt8) : Nat → List GetR → Nat → List GetR × Nat × Nat
  | 0, acc, at_ => (acc, at_, 0)
  | f + 1, acc, at_ =>
    if (getP k b at_ acc.length).code ≠ 0 then (acc, at_, (getP k b at_ acc.length).code)
    else if (getP k b at_ acc.length).last then (acc ++ [getP k b at_ acc.length], (getP k b at_ acc.length).to, 0)
    else allP k b f (acc ++ [getP k b at_ acc.length]) (getP k b at_ acc.length).to
/-- a value's parts, and what was read -/
def SegV.key (s : SegV) : Int × Int × Bool × List UInt8 := (s.kind, s.place, s.last, s.body)
def GetR.key (R : GetR) : Int × Int × Bool × List UInt8 := ((R.kind : Int), (R.place : Int), R.last, R.body)
end Go.Proofs.Ytcdklmicbbcknaa

namespace Go.Proofs.Ytcdklmicbbcknaa
open Go Go.RowKit
theorem Sgs.of_holds {w : World} {g : Nat} {t : TypeId} {l : List SegV} (h : Holds w g t (segCells l)) : Sgs w (some ⟨g, 0, none⟩) l := fun _ =>
  ⟨g, 0, rfl, h.lt, fun j u hu => by rw [Nat.zero_add]; exact h.cellAt hu⟩
theorem Own.grownS {w w' : World} {base b2 : Nat} {A A2 : Option Addr} {c c2 : Nat} {l : List UInt8} {m : List SegV} (h : Own w base A c l) (h2 : OwnS w b2 A2 c2 m) (hg : w.grownBy w' (blk A2)) : Own w' base A c l := by
  refine h.kept hg ?_
  rcases h.2 with ⟨hv, _⟩ | ⟨g, cap, cur, hv, _, hh, _⟩
  · injection hv with e _ _
    subst e
    exact .inl rfl
  · injection hv with e _ _
    subst e
    rcases h2.2 with ⟨hv2, _⟩ | ⟨g2, cap2, cur2, hv2, _, hh2, _⟩
    · injection hv2 with e2 _ _
      subst e2
      exact .inr (by simp [blk])
    · injection hv2 with e2 _ _
      subst e2
      refine .inr fun e => ?_
      simp only [blk, Option.map_some, Option.some.injEq] at e
      subst e
      rw [hh] at hh2
      simp at hh2
theorem OwnS.mono {w : World} {base b2 : Nat} {A : Option Addr} {c : Nat} {l : List SegV} (h : OwnS w base A c l) (hb : b2 ≤ base) : OwnS w b2 A c l := by
  obtain ⟨h1, h2⟩ := h
  refine ⟨h1, ?_⟩
  rcases h2 with h2 | ⟨g, cap, cur, hv, hg, r⟩
  · exact .inl h2
  · exact .inr ⟨g, cap, cur, hv, Nat.le_trans hb hg, r⟩
theorem sa_get (k : K8) (A : Option Addr) (l : List UInt8) (c at_ : Nat) (place : Int) (w : World) (hl : l.length ≤ 100000) (hlc : l.length ≤ c) (hB : Bts w A l) (hat : at_ ≤ l.length) (R : GetR) (hR : Hid (R = getP k l at_ place)) :
    Calls Try.prog 59 #[.agg #[.int .u32 (W k.k0), .int .u32 (W k.k1), .int .u32 (W k.k2), .int .u32 (W k.k3), .int .u32 (W k.k4), .int .u32 (W k.k5), .int .u32 (W k.k6), .int .u32 (W k.k7)], .slice A l.length c, .int .i64 at_, .int .i64 place] w fun e w' => ∃ A' c', e = .returned (.tuple #[.agg #[.int .i64 (R.kind : Int), .int .i64 (R.place : Int), .bool R.last, .slice A' R.body.length c'], .int .i64 (R.to : Int), .int .i64 (R.code : Int)]) ∧ Own w' w.heap.size A' c' R.body ∧ Below w.heap.size w w' :=
  sget_any k A l c at_ place w hl hlc hB hat R hR
def allFr (w : World) (A : Option Addr) (n c at_ : Nat) (A2 : Option Addr) (n2 c2 : Nat) : List (Option Value) :=
  none :: some (.slice A n c) :: some (.int .i64 at_) :: some (.pointer (some ⟨w.heap.size, 0, none⟩)) :: none :: none :: none :: none :: none :: some (.slice A2 n2 c2) :: List.replicate 28 none
structure AlS (w0 : World) (k : K8) (A : Option Addr) (l : List UInt8) (A2 : Option Addr) (c2 : Nat) (segs : List SegV) (w : World) : Prop where
  kh : Holds w w0.heap.size 28 [.int .u32 (W k.k0), .int .u32 (W k.k1), .int .u32 (W k.k2), .int .u32 (W k.k3), .int .u32 (W k.k4), .int .u32 (W k.k5), .int .u32 (W k.k6), .int .u32 (W k.k7)]
  bh : Bts w A l
  oh : OwnS w (w0.heap.size + 1) A2 c2 segs
  sh : ∀ s ∈ segs, Own w (w0.heap.size + 1) s.A s.c s.body
  wh : Below w0.heap.size w0 w
theorem AlS.keep {w0 w w' : World} {k : K8} {A A2 : Option Addr} {l : List UInt8} {c2 : Nat} {segs : List SegV} (h : AlS w0 k A l A2 c2 segs w) (hb : Below w.heap.size w w') : AlS w0 k A l A2 c2 segs w' :=
  ⟨h.kh.below hb h.kh.lt, h.bh.below hb, h.oh.below hb, fun s hs => (h.sh s hs).below hb, h.wh.trans (hb.mono h.wh.size)⟩
theorem AlS.grown {w0 w w' : World} {k : K8} {A A2 A3 : Option Addr} {l : List UInt8} {c2 c3 : Nat} {segs segs' : List SegV} {s : SegV} (h : AlS w0 k A l A2 c2 segs w) (hA : 0 < l.length → ∀ b o, A = some ⟨b, o, none⟩ → b < w0.heap.size)
    (hs : Own w (w0.heap.size + 1) s.A s.c s.body) (hr : Hid (segs' = segs ++ [s])) (ho : OwnS w' (w0.heap.size + 1) A3 c3 segs') (hg : w.grownBy w' (blk A2)) : AlS w0 k A l A3 c3 segs' w' := by
  have hne : ∀ q, blk A2 = some q → w0.heap.size + 1 ≤ q := fun q hq => (h.oh.lt q hq).1
  refine ⟨h.kh.grown hg (fun e => by have := hne _ e.symm; omega), fun h0 => ?_, ho, fun s' hs' => ?_, h.wh.grown hg h.wh.size (fun q hq => by have := hne q hq; omega)⟩
  · obtain ⟨b, o, e, hlt, hc⟩ := h.bh h0
    have hb := hA h0 b o e
    exact ⟨b, o, e, Nat.lt_of_lt_of_le hlt hg.size, fun j hj => (World.cell?_of_block (hg.block b hlt (fun e => by have := hne _ e.symm; omega))).trans (hc j hj)⟩
  · rw [hr.out] at hs'
    rcases List.mem_append.1 hs' with h1 | h1
    · exact (h.sh s' h1).grownS h.oh hg
    · obtain rfl := List.mem_singleton.1 h1
      exact hs.grownS h.oh hg
set_option maxRecDepth 20000 in
set_option maxHeartbeats 16000000 in
theorem all_any (k : K8) (A : Option Addr) (l : List UInt8) (c at_ : Nat) (w : World) (hl : l.length ≤ 100000) (hlc : l.length ≤ c) (hB : Bts w A l) (hat : at_ ≤ l.length) :
    Calls Try.prog 55 #[.agg #[.int .u32 (W k.k0), .int .u32 (W k.k1), .int .u32 (W k.k2), .int .u32 (W k.k3), .int .u32 (W k.k4), .int .u32 (W k.k5), .int .u32 (W k.k6), .int .u32 (W k.k7)], .slice A l.length c, .int .i64 at_] w fun e w' => ∃ A' c' segs rs to cd, Hid (allP k l (l.length + 1 - at_) [] at_ = (rs, to, cd)) ∧ Hid (segs.map SegV.key = rs.map GetR.key) ∧ e = .returned (.tuple #[.slice A' segs.length c', .int .i64 (to : Nat), .int .i64 (cd : Nat)]) ∧ OwnS w' w.heap.size A' c' segs ∧ (∀ s ∈ segs, Own w' w.heap.size s.A s.c s.body) ∧ Below w.heap.size w w' := by
  have hA : 0 < l.length → ∀ b o, A = some ⟨b, o, none⟩ → b < w.heap.size := fun h0 b o e => by
    obtain ⟨b', o', e', hlt, _⟩ := hB h0
    rw [e] at e'
    injection e' with e'
    injection e' with e1 _
    omega
  have hS0 : AlS w k A l none 0 [] (w.alloc (.cells #[.int .u32 (W k.k0), .int .u32 (W k.k1), .int .u32 (W k.k2), .int .u32 (W k.k3), .int .u32 (W k.k4), .int .u32 (W k.k5), .int .u32 (W k.k6), .int .u32 (W k.k7)] 28)) := ⟨Holds.newAt w 28 [.int .u32 (W k.k0), .int .u32 (W k.k1), .int .u32 (W k.k2), .int .u32 (W k.k3), .int .u32 (W k.k4), .int .u32 (W k.k5), .int .u32 (W k.k6), .int .u32 (W k.k7)] rfl, hB.alloc _, OwnS.nil _ _, by simp, (Below.refl _ _).alloc (Nat.le_refl _) _⟩
  have HS0 := Lib.hid hS0
  have HA := Lib.hid hA
  clear hB hS0 hA
  go_enter Try.func55, Try.ntmps55
  go_wp2_with fail
  refine wp_scope_back 0 (fun a' w' => ∃ (at' f : Nat) (A2 : Option Addr) (c2 : Nat) (segs : List SegV) (rs : List GetR), at' ≤ l.length ∧ at_ ≤ at' ∧ segs.length ≤ at' - at_ ∧ l.length - at' < f ∧ AlS w k A l A2 c2 segs w' ∧ Hid (allP k l f rs at' = allP k l (l.length + 1 - at_) [] at_) ∧ Hid (segs.map SegV.key = rs.map GetR.key) ∧ FrameIs (allFr w A l.length c at' A2 segs.length c2) a')
    (fun a' _ => l.length + 1 - (intOf (a'.tmps.getD 2 undef)).toNat) rfl ?_ ?_
  · intro hp
    go_wp2_with fail
    go_step3
    rename_i hk
    refine hk _ _ ?_
    exact hp.out _ _ ⟨at_, l.length + 1 - at_, none, 0, [], [], hat, Nat.le_refl _, by simp, by omega, HS0.out, rfl, rfl, ⟨rfl, rfl, rfl, rfl, trivial⟩, rfl⟩
  · rintro a' w' ⟨at', f, A2, c2, segs, rs, hat', hle, hsl, hf, hS, hAl, hkey, hfr⟩
    refine pass_frame hfr ?_
    intro u0 u4 u5 u6 u7 u8 u10 u11 u12 u13 u14 u15 u16 u17 u18 u19 u20 u21 u22 u23 u24 u25 u26 u27 u28 u29 u30 u31 u32 u33 u34 u35 u36 u37
    dsimp only [AllFit, List.replicate_zero]
    obtain ⟨R, hR⟩ : ∃ R, Hid (R = getP k l at' segs.length) := ⟨_, rfl⟩
    have hrl : rs.length = segs.length := by
      have := congrArg List.length hkey.out
      simpa using this.symm
    obtain ⟨f, rfl⟩ : ∃ f', f = f' + 1 := ⟨f - 1, by omega⟩
    have hstep := hAl.out
    rw [allP, hrl, ← hR.out] at hstep
    have h8 := hS.kh.eight
    have HS := Lib.hid hS
    have HR := Lib.hid hrl
    clear hS hrl hAl
    by_cases hcd : R.code = 0
    case neg =>
      rw [if_pos hcd] at hstep
      have HT := Lib.hid hstep
      clear hstep
      have hcI : ((R.code : Int) == 0) = false := beq_eq_false_iff_ne.2 (by omega)
      go_wp2_with fail
      refine (sa_get k A l c at' _ _ hl hlc HS.out.bh hat' R hR).mono ?_
      rintro e w1 ⟨A1, c1, rfl, ho1, hb1⟩
      have HB := Lib.hid hb1
      clear ho1 hb1 h8
      go_wp2_with fail
      simp only [Exit.jump]
      have hS2 := (HS.out.keep HB.out).keep ((Below.refl _ _).alloc (Nat.le_refl _) (.cells #[.int .i64 (R.kind : Int), .int .i64 (R.place : Int), .bool R.last, .slice A1 R.body.length c1] 81))
      exact bodyPost_ret (v := .tuple #[.slice A2 segs.length c2, .int .i64 at', .int .i64 R.code]) (by simp [results, Try.results55, go_sem]) rfl ⟨A2, c2, segs, rs, at', R.code, HT.out.symm, hkey, rfl, hS2.oh.mono (by omega), fun s hs => (hS2.sh s hs).mono (by omega), hS2.wh⟩
    case pos =>
      have hto := getP_to k l at' segs.length hat' (by rw [← hR.out]; exact hcd)
      rw [← hR.out] at hto
      obtain ⟨hto1, hto2⟩ := hto
      rw [if_neg (by omega)] at hstep
      have hcI : ((R.code : Int) == 0) = true := beq_iff_eq.2 (by omega)
      have hcI2 : (R.code : Int) = 0 := by omega
      cases hla : R.last
      case false =>
        rw [hla, if_neg (by simp)] at hstep
        have HT := Lib.hid hstep
        clear hstep
        go_wp2_with fail
        refine (sa_get k A l c at' _ _ hl hlc HS.out.bh hat' R hR).mono ?_
        rintro e w1 ⟨A1, c1, rfl, ho1, hb1⟩
        rw [hla]
        have hS1 := HS.out.keep hb1
        have hb2 : Below w1.heap.size w1 ((w1.alloc (.cells #[.int .i64 (R.kind : Int), .int .i64 (R.place : Int), .bool false, .slice A1 R.body.length c1] 81)).alloc (.cells #[.int .i64 (R.kind : Int), .int .i64 (R.place : Int), .bool false, .slice A1 R.body.length c1] 81)) := ((Below.refl _ _).alloc (Nat.le_refl _) _).alloc (by simp) _
        have hS2 := hS1.keep hb2
        have hOS := hS2.oh
        have hSg : Sgs ((w1.alloc (.cells #[.int .i64 (R.kind : Int), .int .i64 (R.place : Int), .bool false, .slice A1 R.body.length c1] 81)).alloc (.cells #[.int .i64 (R.kind : Int), .int .i64 (R.place : Int), .bool false, .slice A1 R.body.length c1] 81)) (some ⟨w1.heap.size + 1, 0, none⟩) [⟨(R.kind : Int), (R.place : Int), false, A1, R.body, c1⟩] := Sgs.of_holds (t := 81) (Holds.newAt _ 81 _ (by simp))
        have hHs : Holds ((w1.alloc (.cells #[.int .i64 (R.kind : Int), .int .i64 (R.place : Int), .bool false, .slice A1 R.body.length c1] 81)).alloc (.cells #[.int .i64 (R.kind : Int), .int .i64 (R.place : Int), .bool false, .slice A1 R.body.length c1] 81)) w1.heap.size 81 [.int .i64 (R.kind : Int), .int .i64 (R.place : Int), .bool false, .slice A1 R.body.length c1] := (Holds.newAt w1 81 _ rfl).alloc _
        have hkl := HS.out.kh.lt
        have hw1 := hb1.size
        have hsz : w.heap.size + 1 ≤ ((w1.alloc (.cells #[.int .i64 (R.kind : Int), .int .i64 (R.place : Int), .bool false, .slice A1 R.body.length c1] 81)).alloc (.cells #[.int .i64 (R.kind : Int), .int .i64 (R.place : Int), .bool false, .slice A1 R.body.length c1] 81)).heap.size := by simp; omega
        have hOw : Own ((w1.alloc (.cells #[.int .i64 (R.kind : Int), .int .i64 (R.place : Int), .bool false, .slice A1 R.body.length c1] 81)).alloc (.cells #[.int .i64 (R.kind : Int), .int .i64 (R.place : Int), .bool false, .slice A1 R.body.length c1] 81)) (w.heap.size + 1) A1 c1 R.body := (ho1.mono (by omega)).below hb2
        have hne : some w1.heap.size ≠ blk A2 := fun e => by
          have := (HS.out.oh.lt _ e.symm).2
          omega
        clear ho1 h8
        go_wp2_with (at_builtin; refine wpList_appS rfl (.tmp 28) (.tmp 30) rfl (by rfl) hOS (by rfl) hSg (by simp; omega) hsz ?_; intro A3 c3 r3 w3 hr3 ho3 hg3 ha3; have hc3 := (hHs.grown hg3 hne).four)
        go_step3
        have hS3 := hS2.grown HA.out hOw hr3 ho3 hg3
        have hr3l : r3.length = segs.length + 1 := by rw [hr3.out]; simp
        refine ⟨rfl, ⟨R.to, f, A3, c3, r3, rs ++ [R], hto2, by omega, by omega, by omega, hS3, HT, Lib.hid ?_, ⟨rfl, rfl, rfl, rfl, trivial⟩, rfl⟩, by simp [intOf]; omega⟩
        rw [hr3.out, List.map_append, List.map_append, hkey.out]
        simp [SegV.key, GetR.key, hla]
      case true =>
        rw [hla, if_pos rfl] at hstep
        have HT := Lib.hid hstep
        clear hstep
        go_wp2_with fail
        refine (sa_get k A l c at' _ _ hl hlc HS.out.bh hat' R hR).mono ?_
        rintro e w1 ⟨A1, c1, rfl, ho1, hb1⟩
        rw [hla]
        have hS1 := HS.out.keep hb1
        have hb2 : Below w1.heap.size w1 ((w1.alloc (.cells #[.int .i64 (R.kind : Int), .int .i64 (R.place : Int), .bool true, .slice A1 R.body.length c1] 81)).alloc (.cells #[.int .i64 (R.kind : Int), .int .i64 (R.place : Int), .bool true, .slice A1 R.body.length c1] 81)) := ((Below.refl _ _).alloc (Nat.le_refl _) _).alloc (by simp) _
        have hS2 := hS1.keep hb2
        have hOS := hS2.oh
        have hSg : Sgs ((w1.alloc (.cells #[.int .i64 (R.kind : Int), .int .i64 (R.place : Int), .bool true, .slice A1 R.body.length c1] 81)).alloc (.cells #[.int .i64 (R.kind : Int), .int .i64 (R.place : Int), .bool true, .slice A1 R.body.length c1] 81)) (some ⟨w1.heap.size + 1, 0, none⟩) [⟨(R.kind : Int), (R.place : Int), true, A1, R.body, c1⟩] := Sgs.of_holds (t := 81) (Holds.newAt _ 81 _ (by simp))
        have hHs : Holds ((w1.alloc (.cells #[.int .i64 (R.kind : Int), .int .i64 (R.place : Int), .bool true, .slice A1 R.body.length c1] 81)).alloc (.cells #[.int .i64 (R.kind : Int), .int .i64 (R.place : Int), .bool true, .slice A1 R.body.length c1] 81)) w1.heap.size 81 [.int .i64 (R.kind : Int), .int .i64 (R.place : Int), .bool true, .slice A1 R.body.length c1] := (Holds.newAt w1 81 _ rfl).alloc _
        have hkl := HS.out.kh.lt
        have hw1 := hb1.size
        have hsz : w.heap.size + 1 ≤ ((w1.alloc (.cells #[.int .i64 (R.kind : Int), .int .i64 (R.place : Int), .bool true, .slice A1 R.body.length c1] 81)).alloc (.cells #[.int .i64 (R.kind : Int), .int .i64 (R.place : Int), .bool true, .slice A1 R.body.length c1] 81)).heap.size := by simp; omega
        have hOw : Own ((w1.alloc (.cells #[.int .i64 (R.kind : Int), .int .i64 (R.place : Int), .bool true, .slice A1 R.body.length c1] 81)).alloc (.cells #[.int .i64 (R.kind : Int), .int .i64 (R.place : Int), .bool true, .slice A1 R.body.length c1] 81)) (w.heap.size + 1) A1 c1 R.body := (ho1.mono (by omega)).below hb2
        have hne : some w1.heap.size ≠ blk A2 := fun e => by
          have := (HS.out.oh.lt _ e.symm).2
          omega
        clear ho1 h8
        go_wp2_with (at_builtin; refine wpList_appS rfl (.tmp 28) (.tmp 30) rfl (by rfl) hOS (by rfl) hSg (by simp; omega) hsz ?_; intro A3 c3 r3 w3 hr3 ho3 hg3 ha3; have hc3 := (hHs.grown hg3 hne).four)
        simp only [Exit.jump]
        have hS3 := hS2.grown HA.out hOw hr3 ho3 hg3
        exact bodyPost_ret (v := .tuple #[.slice A3 r3.length c3, .int .i64 R.to, .int .i64 0]) (by simp [results, Try.results55, go_sem]) rfl ⟨A3, c3, r3, rs ++ [R], R.to, 0, HT.out.symm, Lib.hid (by
          rw [hr3.out, List.map_append, List.map_append, hkey.out]
          simp [SegV.key, GetR.key, hla]), rfl, hS3.oh.mono (by omega), fun s hs => (hS3.sh s hs).mono (by omega), hS3.wh⟩
end Go.Proofs.Ytcdklmicbbcknaa
