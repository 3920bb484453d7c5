/-
  steamerlaw17.SealBack answers true and leaves old memory as it was: by a walk of its text (printed by sealback.py).
-/
import Derived.Test.YtcdklmicbbcknaaRh
import Derived.Test.YtcdklmicbbcknaaOs
import Derived.Test.YtcdklmicbbcknaaSr
namespace Go.Proofs.Ytcdklmicbbcknaa
open Go Go.RowKit
set_option linter.unusedVariables false
theorem bk_put (k : K8) (y : UInt8) (P : Nat) (la : Bool) (As : Option Addr) (body : List UInt8) (cs : Nat) (w : World) (hB : Bts w As body) (h : Hid (mayB (y.toNat : Int) (P : Int) la body.length = true)) (hb3 : body.length ≤ 300) :
    Calls Try.prog 54 #[.agg #[.int .u32 (W k.k0), .int .u32 (W k.k1), .int .u32 (W k.k2), .int .u32 (W k.k3), .int .u32 (W k.k4), .int .u32 (W k.k5), .int .u32 (W k.k6), .int .u32 (W k.k7)], .agg #[.int .i64 (y.toNat : Int), .int .i64 (P : Int), .bool la, .slice As body.length cs]] w fun e w' => ∃ A' c' r, Hid (r = sealL k y P body) ∧ (r.length ≤ 400 ∧ 0 < r.length) ∧ e = .returned (.tuple #[.slice A' r.length c', .int .i64 0]) ∧ Bts w' A' r ∧ Below w.heap.size w w' := by
  have hm := of_decide_eq_true h.out
  refine (sput_good k y P la As body cs w hB h.out).mono ?_
  rintro e w' ⟨A', c', r, hr, rfl, ho, hb⟩
  refine ⟨A', c', r, hr, ?_, rfl, ho.bts, hb⟩
  have h1 := putL_18 P (by omega)
  have h2 := putL_18 body.length (by omega)
  rw [hr.out, sealL, List.length_append, sealB_len, tagL_len]
  omega
theorem bk_read (k : K8) (y : UInt8) (P : Nat) (la : Bool) (body l r b : List UInt8) (h : Hid (mayB (y.toNat : Int) (P : Int) la body.length = true)) (hr : Hid (r = sealL k y P body)) (hb : Hid (b = l ++ r)) (place : Int) :
    getP k b l.length place = if (P : Int) ≠ place then failR l.length 2 else ⟨y.toNat, P, la, body, b.length, 0⟩ := by
  have hm := of_decide_eq_true h.out
  have h1 := getP_seal k l [] y P body place (by omega) (by omega) (by omega) (by omega)
  rw [List.append_nil, ← hr.out, ← hb.out] at h1
  rw [h1]
  have hla : decide (y.toNat = 3) = la := by
    rw [hm.2.2.2.2.2]
    by_cases h3 : y.toNat = 3
    · rw [decide_eq_true h3, decide_eq_true (by omega)]
    · rw [decide_eq_false h3, decide_eq_false (by omega)]
  rw [hla, hb.out, List.length_append]
theorem bk_get (k : K8) (A : Option Addr) (b : List UInt8) (c at_ : Nat) (place : Int) (w : World) (hl : b.length ≤ 100000) (hlc : b.length ≤ c) (hB : Bts w A b) (hat : at_ ≤ b.length) (R : GetR) (hR : Hid (getP k b at_ place = R)) :
    Calls Try.prog 59 #[.agg #[.int .u32 (W k.k0), .int .u32 (W k.k1), .int .u32 (W k.k2), .int .u32 (W k.k3), .int .u32 (W k.k4), .int .u32 (W k.k5), .int .u32 (W k.k6), .int .u32 (W k.k7)], .slice A b.length c, .int .i64 at_, .int .i64 place] w fun e w' => ∃ A' c', e = .returned (.tuple #[.agg #[.int .i64 (R.kind : Int), .int .i64 (R.place : Int), .bool R.last, .slice A' R.body.length c'], .int .i64 (R.to : Int), .int .i64 (R.code : Int)]) ∧ Bts w' A' R.body ∧ Below w.heap.size w w' := by
  refine (sa_get k A b c at_ place w hl hlc hB hat R hR.out.symm).mono ?_
  rintro e w' ⟨A', c', rfl, ho, hb⟩
  exact ⟨A', c', rfl, ho.bts, hb⟩
theorem bk_open (k : K8) (b : List UInt8) (at_ : Nat) (place : Int) (w : World) (hl : b.length ≤ 100000) (hat : at_ ≤ b.length) (R : GetR) (hR : Hid (getP k b at_ place = R)) :
    Calls Try.prog 60 #[.agg #[.int .u32 (W k.k0), .int .u32 (W k.k1), .int .u32 (W k.k2), .int .u32 (W k.k3), .int .u32 (W k.k4), .int .u32 (W k.k5), .int .u32 (W k.k6), .int .u32 (W k.k7)], .string (mkStr b), .int .i64 at_, .int .i64 place] w fun e w' => ∃ A' c', e = .returned (.tuple #[.agg #[.int .i64 (R.kind : Int), .int .i64 (R.place : Int), .bool R.last, .slice A' R.body.length c'], .int .i64 (R.to : Int), .int .i64 (R.code : Int)]) ∧ Bts w' A' R.body ∧ Below w.heap.size w w' :=
  ropen_any k (mkStr b) at_ place w hl hat R hR.out.symm
theorem bk_below {w w' : World} {g : Nat} {t : TypeId} {cs : List Value} (h : Holds w g t cs) (hb : Below w.heap.size w w') : Holds w' g t cs := h.below hb h.lt
structure BkS (w0 : World) (k m : K8) (s : List Value) (As : Option Addr) (body : List UInt8) (w : World) : Prop where
  kh : Holds w w0.heap.size 23 [.int .u32 (W k.k0), .int .u32 (W k.k1), .int .u32 (W k.k2), .int .u32 (W k.k3), .int .u32 (W k.k4), .int .u32 (W k.k5), .int .u32 (W k.k6), .int .u32 (W k.k7)]
  mh : Holds w (w0.heap.size + 1) 23 [.int .u32 (W m.k0), .int .u32 (W m.k1), .int .u32 (W m.k2), .int .u32 (W m.k3), .int .u32 (W m.k4), .int .u32 (W m.k5), .int .u32 (W m.k6), .int .u32 (W m.k7)]
  sh : Holds w (w0.heap.size + 1 + 1) 81 s
  sb : Bts w As body
  wh : Below w0.heap.size w0 w
theorem BkS.keep {w0 w w' : World} {k m : K8} {s : List Value} {As : Option Addr} {body : List UInt8} (h : BkS w0 k m s As body w) (hb : Below w.heap.size w w') : BkS w0 k m s As body w' :=
  ⟨h.kh.below hb h.kh.lt, h.mh.below hb h.mh.lt, h.sh.below hb h.sh.lt, h.sb.below hb, h.wh.trans (hb.mono h.wh.size)⟩
theorem BkS.alloc {w0 w : World} {k m : K8} {s : List Value} {As : Option Addr} {body : List UInt8} (h : BkS w0 k m s As body w) (o : Obj) : BkS w0 k m s As body (w.alloc o) := h.keep ((Below.refl _ _).alloc (Nat.le_refl _) o)
theorem BkS.start (w : World) (k m : K8) (s : List Value) (As : Option Addr) (body : List UInt8) (hB : Bts w As body) : BkS w k m s As body (((w.alloc (.cells #[.int .u32 (W k.k0), .int .u32 (W k.k1), .int .u32 (W k.k2), .int .u32 (W k.k3), .int .u32 (W k.k4), .int .u32 (W k.k5), .int .u32 (W k.k6), .int .u32 (W k.k7)] 23)).alloc (.cells #[.int .u32 (W m.k0), .int .u32 (W m.k1), .int .u32 (W m.k2), .int .u32 (W m.k3), .int .u32 (W m.k4), .int .u32 (W m.k5), .int .u32 (W m.k6), .int .u32 (W m.k7)] 23)).alloc (.cells s.toArray 81)) :=
  have hb : Below w.heap.size w (((w.alloc (.cells #[.int .u32 (W k.k0), .int .u32 (W k.k1), .int .u32 (W k.k2), .int .u32 (W k.k3), .int .u32 (W k.k4), .int .u32 (W k.k5), .int .u32 (W k.k6), .int .u32 (W k.k7)] 23)).alloc (.cells #[.int .u32 (W m.k0), .int .u32 (W m.k1), .int .u32 (W m.k2), .int .u32 (W m.k3), .int .u32 (W m.k4), .int .u32 (W m.k5), .int .u32 (W m.k6), .int .u32 (W m.k7)] 23)).alloc (.cells s.toArray 81)) := (((Below.refl _ _).alloc (Nat.le_refl _) _).alloc (by simp) _).alloc (by simp; omega) _
  ⟨((Holds.newAt w 23 [.int .u32 (W k.k0), .int .u32 (W k.k1), .int .u32 (W k.k2), .int .u32 (W k.k3), .int .u32 (W k.k4), .int .u32 (W k.k5), .int .u32 (W k.k6), .int .u32 (W k.k7)] rfl).alloc _).alloc _, (Holds.newAt (w.alloc (.cells #[.int .u32 (W k.k0), .int .u32 (W k.k1), .int .u32 (W k.k2), .int .u32 (W k.k3), .int .u32 (W k.k4), .int .u32 (W k.k5), .int .u32 (W k.k6), .int .u32 (W k.k7)] 23)) 23 [.int .u32 (W m.k0), .int .u32 (W m.k1), .int .u32 (W m.k2), .int .u32 (W m.k3), .int .u32 (W m.k4), .int .u32 (W m.k5), .int .u32 (W m.k6), .int .u32 (W m.k7)] (by simp)).alloc _, Holds.newAt ((w.alloc (.cells #[.int .u32 (W k.k0), .int .u32 (W k.k1), .int .u32 (W k.k2), .int .u32 (W k.k3), .int .u32 (W k.k4), .int .u32 (W k.k5), .int .u32 (W k.k6), .int .u32 (W k.k7)] 23)).alloc (.cells #[.int .u32 (W m.k0), .int .u32 (W m.k1), .int .u32 (W m.k2), .int .u32 (W m.k3), .int .u32 (W m.k4), .int .u32 (W m.k5), .int .u32 (W m.k6), .int .u32 (W m.k7)] 23)) 81 s (by simp), hB.below hb, hb⟩
attribute [local go_sem ↓] run_str'
set_option maxRecDepth 20000 in
set_option maxHeartbeats 8000000 in
theorem bk_bad (k m : K8) (s : SegV) (A : Option Addr) (l : List UInt8) (c : Nat) (ot : Int) (w : World) (h : 300 < s.body.length ∨ (s.body.length ≤ 300 ∧ 9 < l.length)) :
    Calls Try.prog 22 #[.agg #[.int .u32 (W k.k0), .int .u32 (W k.k1), .int .u32 (W k.k2), .int .u32 (W k.k3), .int .u32 (W k.k4), .int .u32 (W k.k5), .int .u32 (W k.k6), .int .u32 (W k.k7)], .agg #[.int .u32 (W m.k0), .int .u32 (W m.k1), .int .u32 (W m.k2), .int .u32 (W m.k3), .int .u32 (W m.k4), .int .u32 (W m.k5), .int .u32 (W m.k6), .int .u32 (W m.k7)], .agg #[.int .i64 s.kind, .int .i64 s.place, .bool s.last, .slice s.A s.body.length s.c], .slice A l.length c, .int .i64 ot] w fun e w' => e = .returned (.bool true) ∧ Below w.heap.size w w' := by
  have hb0 : Below w.heap.size w (((w.alloc (.cells #[.int .u32 (W k.k0), .int .u32 (W k.k1), .int .u32 (W k.k2), .int .u32 (W k.k3), .int .u32 (W k.k4), .int .u32 (W k.k5), .int .u32 (W k.k6), .int .u32 (W k.k7)] 23)).alloc (.cells #[.int .u32 (W m.k0), .int .u32 (W m.k1), .int .u32 (W m.k2), .int .u32 (W m.k3), .int .u32 (W m.k4), .int .u32 (W m.k5), .int .u32 (W m.k6), .int .u32 (W m.k7)] 23)).alloc (.cells #[.int .i64 s.kind, .int .i64 s.place, .bool s.last, .slice s.A s.body.length s.c] 81)) := (((Below.refl _ _).alloc (Nat.le_refl _) _).alloc (by simp) _).alloc (by simp; omega) _
  rcases h with h | ⟨h, h2⟩
  all_goals (
    go_enter Try.func22, Try.ntmps22
    go_wp2_with fail
    refine (told17 _).mono ?_
    rintro e w1 ⟨rfl, hb1⟩
    go_wp2_with fail
    go_ret
    exact ⟨rfl, hb0.trans (hb1.mono hb0.size)⟩)
set_option maxRecDepth 20000 in
set_option maxHeartbeats 8000000 in
theorem bk_may (k m : K8) (s : SegV) (A : Option Addr) (l : List UInt8) (c : Nat) (ot : Int) (w : World) (h : s.body.length ≤ 300) (h2 : l.length ≤ 9) (h3 : Hid (mayB s.kind s.place s.last s.body.length = false)) :
    Calls Try.prog 22 #[.agg #[.int .u32 (W k.k0), .int .u32 (W k.k1), .int .u32 (W k.k2), .int .u32 (W k.k3), .int .u32 (W k.k4), .int .u32 (W k.k5), .int .u32 (W k.k6), .int .u32 (W k.k7)], .agg #[.int .u32 (W m.k0), .int .u32 (W m.k1), .int .u32 (W m.k2), .int .u32 (W m.k3), .int .u32 (W m.k4), .int .u32 (W m.k5), .int .u32 (W m.k6), .int .u32 (W m.k7)], .agg #[.int .i64 s.kind, .int .i64 s.place, .bool s.last, .slice s.A s.body.length s.c], .slice A l.length c, .int .i64 ot] w fun e w' => e = .returned (.bool true) ∧ Below w.heap.size w w' := by
  have hb0 : Below w.heap.size w (((w.alloc (.cells #[.int .u32 (W k.k0), .int .u32 (W k.k1), .int .u32 (W k.k2), .int .u32 (W k.k3), .int .u32 (W k.k4), .int .u32 (W k.k5), .int .u32 (W k.k6), .int .u32 (W k.k7)] 23)).alloc (.cells #[.int .u32 (W m.k0), .int .u32 (W m.k1), .int .u32 (W m.k2), .int .u32 (W m.k3), .int .u32 (W m.k4), .int .u32 (W m.k5), .int .u32 (W m.k6), .int .u32 (W m.k7)] 23)).alloc (.cells #[.int .i64 s.kind, .int .i64 s.place, .bool s.last, .slice s.A s.body.length s.c] 81)) := (((Below.refl _ _).alloc (Nat.le_refl _) _).alloc (by simp) _).alloc (by simp; omega) _
  go_enter Try.func22, Try.ntmps22
  go_wp2_with fail
  refine (may_any _ _ _ _ _ _ _).mono ?_
  rintro e w9 ⟨rfl, hb9⟩
  rw [h3.out]
  have hb2 := hb0.trans (hb9.mono hb0.size)
  go_wp2_with fail
  refine (told17 _).mono ?_
  rintro e w1 ⟨rfl, hb1⟩
  go_wp2_with fail
  go_ret
  exact ⟨rfl, hb2.trans (hb1.mono hb2.size)⟩
set_option maxRecDepth 20000 in
set_option maxHeartbeats 16000000 in
theorem bk_same (k m : K8) (y : UInt8) (P : Nat) (la : Bool) (As : Option Addr) (body : List UInt8) (cs : Nat) (A : Option Addr) (l : List UInt8) (c : Nat) (ot : Int) (w : World) (hBs : Bts w As body) (hBl : Bts w A l) (h3 : body.length ≤ 300) (h9 : l.length ≤ 9) (hmay : Hid (mayB (y.toNat : Int) (P : Int) la body.length = true)) :
    Calls Try.prog 22 #[.agg #[.int .u32 (W k.k0), .int .u32 (W k.k1), .int .u32 (W k.k2), .int .u32 (W k.k3), .int .u32 (W k.k4), .int .u32 (W k.k5), .int .u32 (W k.k6), .int .u32 (W k.k7)], .agg #[.int .u32 (W m.k0), .int .u32 (W m.k1), .int .u32 (W m.k2), .int .u32 (W m.k3), .int .u32 (W m.k4), .int .u32 (W m.k5), .int .u32 (W m.k6), .int .u32 (W m.k7)], .agg #[.int .i64 (y.toNat : Int), .int .i64 (P : Int), .bool la, .slice As body.length cs], .slice A l.length c, .int .i64 (P : Int)] w fun e w' => e = .returned (.bool true) ∧ Below w.heap.size w w' := by
  have HS0 := Lib.hid (BkS.start w k m [.int .i64 (y.toNat : Int), .int .i64 (P : Int), .bool la, .slice As body.length cs] As body hBs)
  have HBl := Lib.hid hBl
  clear hBs hBl
  go_enter Try.func22, Try.ntmps22
  go_wp2_with fail
  refine (may_any _ _ _ _ _ _ _).mono ?_
  rintro e w1 ⟨rfl, hb1⟩
  rw [hmay.out]
  have HS1 := Lib.hid (HS0.out.keep hb1)
  clear hb1 HS0
  have h8 := HS1.out.kh.eight
  have h4 := HS1.out.sh.four
  go_wp2_with fail
  refine (bk_put k y P la As body cs _ HS1.out.sb hmay h3).mono ?_
  rintro e w2 ⟨A2, c2, r, hr, ⟨hrl, hr0⟩, rfl, hBr, hb2⟩
  have HS2 := Lib.hid (HS1.out.keep hb2)
  have hbe : Below w2.heap.size w2 (w2.alloc (.cells (bvals []).toArray 5)) := (Below.refl _ _).alloc (Nat.le_refl _) _
  have ho0 := Own.made w2 w2.heap.size (Nat.le_refl _) [] (by simp)
  have hBl2 := (HBl.out.below HS2.out.wh).below hbe
  have HNE := Lib.hid (Bts.blk hBr hr0 (Nat.le_refl _))
  have HBr := Lib.hid (hBr.below hbe)
  have hsz2 := hbe.size
  clear h8 h4 hBr hb2 HS1
  go_wp2_with (at_builtin; first | (refine wpList_app (w := w2.alloc (.cells (bvals []).toArray 5)) rfl (.tmp 49) (.tmp 50) rfl (by rfl) ho0 (by rfl) hBl2 (by simp; omega) hsz2 ?_; intro A3 c3 r3 w3 hr3 ho3 hg3 ha3; have hb3 := hbe.grown hg3 hsz2 (fun q hq => (ho0.lt q hq).1); have hr3l : Hid (r3.length = l.length) := Lib.hid (by rw [hr3.out]; simp); have hBr3 : Bts w3 A2 r := HBr.out.grown hg3 (fun b o e hlt e2 => (HNE.out b o e) (Option.some.inj e2)); have hsz3 := hb3.size; clear ho0 hBl2 hsz2 hbe HBr hg3) | (refine wpList_app rfl (.tmp 51) (.tmp 52) rfl (by rfl) ho3 (by rfl) hBr3 (by rw [hr3l.out]; omega) hsz3 ?_; intro A4 c4 b w4 hb4 ho4 hg4 ha4; have hbb := hb3.grown hg4 hsz3 (fun q hq => (ho3.lt q hq).1); have h8 := (HS2.out.keep hbb).kh.eight; have h4 := (HS2.out.keep hbb).sh.four; clear ho3 hBr3 hb3 hg4))
  have hb4e : Hid (b = l ++ r) := Lib.hid (by rw [hb4.out, hr3.out]; rfl)
  have hbl : b.length = l.length + r.length := by rw [hb4e.out, List.length_append]
  have HBL := Lib.hid hbl
  have hb500 : b.length ≤ 500 := by omega
  have hlb : l.length ≤ b.length := by omega
  have hcap := ho4.cap
  have HS4 := Lib.hid (And.intro (HS2.out.keep hbb) ho4.bts)
  have hrd := fun place => bk_read k y P la body l r b hmay hr hb4e place
  have hR1 : Hid (getP k b l.length (P : Int) = ⟨y.toNat, P, la, body, b.length, 0⟩) := Lib.hid (by rw [hrd, if_neg (by simp)])
  have hR2 := hR1
  obtain ⟨R3, hR3⟩ : ∃ R3, Hid (getP m b l.length (P : Int) = R3) := ⟨_, rfl⟩
  clear hrd hbl ho4 hbb HS2 hr3l ha4
  refine (bk_get k A4 b c4 l.length P _ (by omega) hcap HS4.out.2 hlb _ hR1).mono ?_
  rintro e w5 ⟨A5, c5, rfl, hB5, hb5⟩
  dsimp only at hB5 ⊢
  have HS5 := Lib.hid (And.intro ((HS4.out.1.keep hb5).alloc (.cells #[.int .i64 (y.toNat : Int), .int .i64 (P : Int), .bool la, .slice A5 body.length c5] 81)) (And.intro ((HS4.out.2.below hb5).alloc (.cells #[.int .i64 (y.toNat : Int), .int .i64 (P : Int), .bool la, .slice A5 body.length c5] 81)) (And.intro (hB5.alloc (.cells #[.int .i64 (y.toNat : Int), .int .i64 (P : Int), .bool la, .slice A5 body.length c5] 81)) (Holds.newAt w5 81 [.int .i64 (y.toNat : Int), .int .i64 (P : Int), .bool la, .slice A5 body.length c5] rfl))))
  clear h8 h4 HS4 hB5 hb5
  have h8 := HS5.out.1.kh.eight
  have h4 := HS5.out.1.sh.four
  go_wp2_with fail
  refine (bk_get k A4 b c4 l.length (P : Int) _ (by omega) hcap HS5.out.2.1 hlb _ hR2).mono ?_
  rintro e w6 ⟨A6, c6, rfl, _, hb6⟩
  dsimp only
  have HS6 := Lib.hid (And.intro ((HS5.out.1.keep hb6).alloc (.cells #[.int .i64 (y.toNat : Int), .int .i64 (P : Int), .bool la, .slice A6 body.length c6] 81)) (And.intro ((HS5.out.2.1.below hb6).alloc (.cells #[.int .i64 (y.toNat : Int), .int .i64 (P : Int), .bool la, .slice A6 body.length c6] 81)) (And.intro ((HS5.out.2.2.1.below hb6).alloc (.cells #[.int .i64 (y.toNat : Int), .int .i64 (P : Int), .bool la, .slice A6 body.length c6] 81)) ((bk_below HS5.out.2.2.2 hb6).alloc (.cells #[.int .i64 (y.toNat : Int), .int .i64 (P : Int), .bool la, .slice A6 body.length c6] 81)))))
  clear h8 h4 HS5 hb6
  have h8 := HS6.out.1.mh.eight
  have h4 := HS6.out.1.sh.four
  go_wp2_with fail
  refine (bk_get m A4 b c4 l.length P _ (by omega) hcap HS6.out.2.1 hlb R3 hR3).mono ?_
  rintro e w7 ⟨A7, c7, rfl, _, hb7⟩
  have HS7 := Lib.hid (And.intro ((HS6.out.1.keep hb7).alloc (.cells #[.int .i64 (R3.kind : Int), .int .i64 (R3.place : Int), .bool R3.last, .slice A7 R3.body.length c7] 81)) (And.intro ((HS6.out.2.1.below hb7).alloc (.cells #[.int .i64 (R3.kind : Int), .int .i64 (R3.place : Int), .bool R3.last, .slice A7 R3.body.length c7] 81)) (And.intro ((HS6.out.2.2.1.below hb7).alloc (.cells #[.int .i64 (R3.kind : Int), .int .i64 (R3.place : Int), .bool R3.last, .slice A7 R3.body.length c7] 81)) ((bk_below HS6.out.2.2.2 hb7).alloc (.cells #[.int .i64 (R3.kind : Int), .int .i64 (R3.place : Int), .bool R3.last, .slice A7 R3.body.length c7] 81)))))
  clear h8 h4 HS6 hb7
  have h8 := HS7.out.1.mh.eight
  have h4 := HS7.out.1.sh.four
  have hBb := HS7.out.2.1
  go_wp2_with fail
  refine (bk_open m b l.length P _ (by omega) hlb R3 hR3).mono ?_
  rintro e w8 ⟨A8, c8, rfl, _, hb8⟩
  have HS8 := Lib.hid (And.intro ((HS7.out.1.keep hb8).alloc (.cells #[.int .i64 (R3.kind : Int), .int .i64 (R3.place : Int), .bool R3.last, .slice A8 R3.body.length c8] 81)) (And.intro ((HS7.out.2.2.1.below hb8).alloc (.cells #[.int .i64 (R3.kind : Int), .int .i64 (R3.place : Int), .bool R3.last, .slice A8 R3.body.length c8] 81)) ((bk_below HS7.out.2.2.2 hb8).alloc (.cells #[.int .i64 (R3.kind : Int), .int .i64 (R3.place : Int), .bool R3.last, .slice A8 R3.body.length c8] 81))))
  clear h8 h4 HS7 hb8 hBb
  go_wp2_with fail
  refine (told17 _).mono ?_
  rintro e w9 ⟨rfl, hb9⟩
  have HS9 := Lib.hid (And.intro (HS8.out.1.keep hb9) (And.intro (HS8.out.2.1.below hb9) (bk_below HS8.out.2.2 hb9)))
  clear HS8 hb9
  have h4 := HS9.out.1.sh.four
  have hx4 := HS9.out.2.2.four
  go_wp2_with fail
  refine (ssame_true (y.toNat : Int) (P : Int) la A5 As body c5 cs _ HS9.out.2.1 HS9.out.1.sb).mono ?_
  rintro e wa ⟨rfl, hba⟩
  have HSa := Lib.hid (HS9.out.1.keep hba)
  clear h4 hx4 HS9 hba
  have h4 := HSa.out.sh.four
  go_wp2_with fail
  go_ret
  exact ⟨ret_bool17 (by simp), HSa.out.wh⟩
set_option maxRecDepth 20000 in
set_option maxHeartbeats 16000000 in
theorem bk_other (k m : K8) (y : UInt8) (P : Nat) (la : Bool) (As : Option Addr) (body : List UInt8) (cs : Nat) (A : Option Addr) (l : List UInt8) (c : Nat) (ot : Int) (w : World) (hBs : Bts w As body) (hBl : Bts w A l) (h3 : body.length ≤ 300) (h9 : l.length ≤ 9) (hmay : Hid (mayB (y.toNat : Int) (P : Int) la body.length = true)) (hot : (P : Int) ≠ ot) :
    Calls Try.prog 22 #[.agg #[.int .u32 (W k.k0), .int .u32 (W k.k1), .int .u32 (W k.k2), .int .u32 (W k.k3), .int .u32 (W k.k4), .int .u32 (W k.k5), .int .u32 (W k.k6), .int .u32 (W k.k7)], .agg #[.int .u32 (W m.k0), .int .u32 (W m.k1), .int .u32 (W m.k2), .int .u32 (W m.k3), .int .u32 (W m.k4), .int .u32 (W m.k5), .int .u32 (W m.k6), .int .u32 (W m.k7)], .agg #[.int .i64 (y.toNat : Int), .int .i64 (P : Int), .bool la, .slice As body.length cs], .slice A l.length c, .int .i64 ot] w fun e w' => e = .returned (.bool true) ∧ Below w.heap.size w w' := by
  have HS0 := Lib.hid (BkS.start w k m [.int .i64 (y.toNat : Int), .int .i64 (P : Int), .bool la, .slice As body.length cs] As body hBs)
  have HBl := Lib.hid hBl
  clear hBs hBl
  go_enter Try.func22, Try.ntmps22
  go_wp2_with fail
  refine (may_any _ _ _ _ _ _ _).mono ?_
  rintro e w1 ⟨rfl, hb1⟩
  rw [hmay.out]
  have HS1 := Lib.hid (HS0.out.keep hb1)
  clear hb1 HS0
  have h8 := HS1.out.kh.eight
  have h4 := HS1.out.sh.four
  go_wp2_with fail
  refine (bk_put k y P la As body cs _ HS1.out.sb hmay h3).mono ?_
  rintro e w2 ⟨A2, c2, r, hr, ⟨hrl, hr0⟩, rfl, hBr, hb2⟩
  have HS2 := Lib.hid (HS1.out.keep hb2)
  have hbe : Below w2.heap.size w2 (w2.alloc (.cells (bvals []).toArray 5)) := (Below.refl _ _).alloc (Nat.le_refl _) _
  have ho0 := Own.made w2 w2.heap.size (Nat.le_refl _) [] (by simp)
  have hBl2 := (HBl.out.below HS2.out.wh).below hbe
  have HNE := Lib.hid (Bts.blk hBr hr0 (Nat.le_refl _))
  have HBr := Lib.hid (hBr.below hbe)
  have hsz2 := hbe.size
  clear h8 h4 hBr hb2 HS1
  go_wp2_with (at_builtin; first | (refine wpList_app (w := w2.alloc (.cells (bvals []).toArray 5)) rfl (.tmp 49) (.tmp 50) rfl (by rfl) ho0 (by rfl) hBl2 (by simp; omega) hsz2 ?_; intro A3 c3 r3 w3 hr3 ho3 hg3 ha3; have hb3 := hbe.grown hg3 hsz2 (fun q hq => (ho0.lt q hq).1); have hr3l : Hid (r3.length = l.length) := Lib.hid (by rw [hr3.out]; simp); have hBr3 : Bts w3 A2 r := HBr.out.grown hg3 (fun b o e hlt e2 => (HNE.out b o e) (Option.some.inj e2)); have hsz3 := hb3.size; clear ho0 hBl2 hsz2 hbe HBr hg3) | (refine wpList_app rfl (.tmp 51) (.tmp 52) rfl (by rfl) ho3 (by rfl) hBr3 (by rw [hr3l.out]; omega) hsz3 ?_; intro A4 c4 b w4 hb4 ho4 hg4 ha4; have hbb := hb3.grown hg4 hsz3 (fun q hq => (ho3.lt q hq).1); have h8 := (HS2.out.keep hbb).kh.eight; have h4 := (HS2.out.keep hbb).sh.four; clear ho3 hBr3 hb3 hg4))
  have hb4e : Hid (b = l ++ r) := Lib.hid (by rw [hb4.out, hr3.out]; rfl)
  have hbl : b.length = l.length + r.length := by rw [hb4e.out, List.length_append]
  have HBL := Lib.hid hbl
  have hb500 : b.length ≤ 500 := by omega
  have hlb : l.length ≤ b.length := by omega
  have hcap := ho4.cap
  have HS4 := Lib.hid (And.intro (HS2.out.keep hbb) ho4.bts)
  have hrd := fun place => bk_read k y P la body l r b hmay hr hb4e place
  have hR1 : Hid (getP k b l.length (P : Int) = ⟨y.toNat, P, la, body, b.length, 0⟩) := Lib.hid (by rw [hrd, if_neg (by simp)])
  have hR2 : Hid (getP k b l.length ot = ⟨0, 0, false, [], l.length, 2⟩) := Lib.hid (by rw [hrd, if_pos hot]; rfl)
  have hotI : (ot == (P : Int)) = false := beq_eq_false_iff_ne.2 (fun e => hot e.symm)
  have hotJ : ((P : Int) == ot) = false := beq_eq_false_iff_ne.2 hot
  obtain ⟨R3, hR3⟩ : ∃ R3, Hid (getP m b l.length (P : Int) = R3) := ⟨_, rfl⟩
  clear hrd hbl ho4 hbb HS2 hr3l ha4
  refine (bk_get k A4 b c4 l.length P _ (by omega) hcap HS4.out.2 hlb _ hR1).mono ?_
  rintro e w5 ⟨A5, c5, rfl, hB5, hb5⟩
  dsimp only at hB5 ⊢
  have HS5 := Lib.hid (And.intro ((HS4.out.1.keep hb5).alloc (.cells #[.int .i64 (y.toNat : Int), .int .i64 (P : Int), .bool la, .slice A5 body.length c5] 81)) (And.intro ((HS4.out.2.below hb5).alloc (.cells #[.int .i64 (y.toNat : Int), .int .i64 (P : Int), .bool la, .slice A5 body.length c5] 81)) (And.intro (hB5.alloc (.cells #[.int .i64 (y.toNat : Int), .int .i64 (P : Int), .bool la, .slice A5 body.length c5] 81)) (Holds.newAt w5 81 [.int .i64 (y.toNat : Int), .int .i64 (P : Int), .bool la, .slice A5 body.length c5] rfl))))
  clear h8 h4 HS4 hB5 hb5
  have h8 := HS5.out.1.kh.eight
  have h4 := HS5.out.1.sh.four
  go_wp2_with fail
  refine (bk_get k A4 b c4 l.length ot _ (by omega) hcap HS5.out.2.1 hlb _ hR2).mono ?_
  rintro e w6 ⟨A6, c6, rfl, _, hb6⟩
  dsimp only
  have HS6 := Lib.hid (And.intro ((HS5.out.1.keep hb6).alloc (.cells #[.int .i64 0, .int .i64 0, .bool false, .slice A6 0 c6] 81)) (And.intro ((HS5.out.2.1.below hb6).alloc (.cells #[.int .i64 0, .int .i64 0, .bool false, .slice A6 0 c6] 81)) (And.intro ((HS5.out.2.2.1.below hb6).alloc (.cells #[.int .i64 0, .int .i64 0, .bool false, .slice A6 0 c6] 81)) ((bk_below HS5.out.2.2.2 hb6).alloc (.cells #[.int .i64 0, .int .i64 0, .bool false, .slice A6 0 c6] 81)))))
  clear h8 h4 HS5 hb6
  have h8 := HS6.out.1.mh.eight
  have h4 := HS6.out.1.sh.four
  go_wp2_with fail
  refine (bk_get m A4 b c4 l.length P _ (by omega) hcap HS6.out.2.1 hlb R3 hR3).mono ?_
  rintro e w7 ⟨A7, c7, rfl, _, hb7⟩
  have HS7 := Lib.hid (And.intro ((HS6.out.1.keep hb7).alloc (.cells #[.int .i64 (R3.kind : Int), .int .i64 (R3.place : Int), .bool R3.last, .slice A7 R3.body.length c7] 81)) (And.intro ((HS6.out.2.1.below hb7).alloc (.cells #[.int .i64 (R3.kind : Int), .int .i64 (R3.place : Int), .bool R3.last, .slice A7 R3.body.length c7] 81)) (And.intro ((HS6.out.2.2.1.below hb7).alloc (.cells #[.int .i64 (R3.kind : Int), .int .i64 (R3.place : Int), .bool R3.last, .slice A7 R3.body.length c7] 81)) ((bk_below HS6.out.2.2.2 hb7).alloc (.cells #[.int .i64 (R3.kind : Int), .int .i64 (R3.place : Int), .bool R3.last, .slice A7 R3.body.length c7] 81)))))
  clear h8 h4 HS6 hb7
  have h8 := HS7.out.1.mh.eight
  have h4 := HS7.out.1.sh.four
  have hBb := HS7.out.2.1
  go_wp2_with fail
  refine (bk_open m b l.length P _ (by omega) hlb R3 hR3).mono ?_
  rintro e w8 ⟨A8, c8, rfl, _, hb8⟩
  have HS8 := Lib.hid (And.intro ((HS7.out.1.keep hb8).alloc (.cells #[.int .i64 (R3.kind : Int), .int .i64 (R3.place : Int), .bool R3.last, .slice A8 R3.body.length c8] 81)) (And.intro ((HS7.out.2.2.1.below hb8).alloc (.cells #[.int .i64 (R3.kind : Int), .int .i64 (R3.place : Int), .bool R3.last, .slice A8 R3.body.length c8] 81)) ((bk_below HS7.out.2.2.2 hb8).alloc (.cells #[.int .i64 (R3.kind : Int), .int .i64 (R3.place : Int), .bool R3.last, .slice A8 R3.body.length c8] 81))))
  clear h8 h4 HS7 hb8 hBb
  go_wp2_with fail
  refine (told17 _).mono ?_
  rintro e w9 ⟨rfl, hb9⟩
  have HS9 := Lib.hid (And.intro (HS8.out.1.keep hb9) (And.intro (HS8.out.2.1.below hb9) (bk_below HS8.out.2.2 hb9)))
  clear HS8 hb9
  have h4 := HS9.out.1.sh.four
  have hx4 := HS9.out.2.2.four
  go_wp2_with fail
  refine (ssame_true (y.toNat : Int) (P : Int) la A5 As body c5 cs _ HS9.out.2.1 HS9.out.1.sb).mono ?_
  rintro e wa ⟨rfl, hba⟩
  have HSa := Lib.hid (HS9.out.1.keep hba)
  clear h4 hx4 HS9 hba
  have h4 := HSa.out.sh.four
  go_wp2_with fail
  go_ret
  exact ⟨ret_bool17 (by simp), HSa.out.wh⟩
theorem walk_SealBack (k m : K8) (s : SegV) (A : Option Addr) (l : List UInt8) (c : Nat) (ot : Int) (w : World) (hs : SegOk w s) (hB : Bts w A l) (hlc : l.length ≤ c) (hc : c ≤ maxLen) (_h1 : -9223372036854775808 ≤ ot ∧ ot < 9223372036854775808) :
    Calls Try.prog 22 #[.agg k.vals.toArray, .agg m.vals.toArray, .agg s.cells.toArray, .slice A l.length c, .int .i64 ot] w fun e w' => e = .returned (.bool true) ∧ Below w.heap.size w w' := by
  by_cases h1 : 300 < s.body.length
  · exact bk_bad k m s A l c ot w (.inl h1)
  by_cases h2 : 9 < l.length
  · exact bk_bad k m s A l c ot w (.inr ⟨by omega, h2⟩)
  cases h3 : mayB s.kind s.place s.last s.body.length with
  | false => exact bk_may k m s A l c ot w (by omega) (by omega) h3
  | true =>
    obtain ⟨kd, pl, la, As, body, cs⟩ := s
    dsimp only at h1 h3
    have hm := of_decide_eq_true h3
    obtain ⟨y, rfl⟩ : ∃ y : UInt8, kd = (y.toNat : Int) := ⟨.ofNat kd.toNat, by rw [ofNat_small (by omega)]; omega⟩
    obtain ⟨P, rfl⟩ : ∃ P : Nat, pl = (P : Int) := ⟨pl.toNat, by omega⟩
    by_cases ho : (P : Int) = ot
    · subst ho
      exact bk_same k m y P la As body cs A l c 0 w hs.1 hB (by omega) (by omega) h3
    · exact bk_other k m y P la As body cs A l c ot w hs.1 hB (by omega) (by omega) h3 ho
end Go.Proofs.Ytcdklmicbbcknaa
