/-
  The reference's All; what seal.All reads of a row's bytes, of a cut, of turned bytes; rows of numbers of the call's own; calls said for the walk of SealRow (rl.py, ri.py, put together).
-/
import Derived.Test.YtcdklmicbbcknaaRh
import Derived.Test.YtcdklmicbbcknaaSr
import Derived.Test.YtcdklmicbbcknaaSo
import Derived.Test.YtcdklmicbbcknaaOs
namespace Go.Proofs.Ytcdklmicbbcknaa
open Go Go.RowKit
set_option linter.unusedVariables false
/-- a segment's bytes are there, and in no block of the row -/
def Away (w : World) (A2 : Option Addr) (s : SegV) : Prop := Bts w s.A s.body ∧ (0 < s.body.length → ∀ b o, s.A = some ⟨b, o, none⟩ → blk A2 ≠ some b)
theorem Away.grown {w w' : World} {A2 A3 : Option Addr} {s : SegV} (h : Away w A2 s) (hg : w.grownBy w' (blk A2)) (ha : blk A3 = blk A2 ∨ blk A3 = some w.heap.size) : Away w' A3 s := by
  refine ⟨fun h0 => ?_, fun h0 b o e => ?_⟩
  · obtain ⟨b, o, e, hb, hc⟩ := h.1 h0
    exact ⟨b, o, e, Nat.lt_of_lt_of_le hb hg.size, fun j hj => (World.cell?_of_block (hg.block b hb (fun e2 => h.2 h0 b o e e2.symm))).trans (hc j hj)⟩
  · obtain ⟨b', o', e', hb, _⟩ := h.1 h0
    rw [e] at e'
    injection e' with e'
    injection e' with e1 _
    rcases ha with ha | ha
    · rw [ha]; exact h.2 h0 b o e
    · rw [ha]; intro e2; have := Option.some.inj e2; omega
structure RlS (w0 : World) (k : K8) (A2 : Option Addr) (c2 : Nat) (segs : List SegV) (w : World) : Prop where
  kh : Holds w w0.heap.size 32 [.int .u32 (W k.k0), .int .u32 (W k.k1), .int .u32 (W k.k2), .int .u32 (W k.k3), .int .u32 (W k.k4), .int .u32 (W k.k5), .int .u32 (W k.k6), .int .u32 (W k.k7)]
  oh : OwnS w (w0.heap.size + 1) A2 c2 segs
  sh : ∀ s ∈ segs, Away w A2 s
  wh : Below w0.heap.size w0 w
theorem RlS.keep {w0 w w' : World} {k : K8} {A2 : Option Addr} {c2 : Nat} {segs : List SegV} (h : RlS w0 k A2 c2 segs w) (hb : Below w.heap.size w w') : RlS w0 k A2 c2 segs w' :=
  ⟨h.kh.below hb h.kh.lt, h.oh.below hb, fun s hs => ⟨(h.sh s hs).1.below hb, (h.sh s hs).2⟩, h.wh.trans (hb.mono h.wh.size)⟩
theorem RlS.grown {w0 w w' : World} {k : K8} {A2 A3 : Option Addr} {c2 c3 : Nat} {segs segs' : List SegV} {s : SegV} (h : RlS w0 k A2 c2 segs w)
    (hs : Away w A2 s) (hr : Hid (segs' = segs ++ [s])) (ho : OwnS w' (w0.heap.size + 1) A3 c3 segs') (hg : w.grownBy w' (blk A2)) (ha : blk A3 = blk A2 ∨ blk A3 = some w.heap.size) : RlS w0 k A3 c3 segs' w' := by
  have hne : ∀ q, blk A2 = some q → w0.heap.size + 1 ≤ q := fun q hq => (h.oh.lt q hq).1
  refine ⟨h.kh.grown hg (fun e => by have := hne _ e.symm; omega), ho, fun s' hs' => ?_, h.wh.grown hg h.wh.size (fun q hq => by have := hne q hq; omega)⟩
  rw [hr.out] at hs'
  rcases List.mem_append.1 hs' with h1 | h1
  · exact (h.sh s' h1).grown hg ha
  · obtain rfl := List.mem_singleton.1 h1
    exact hs.grown hg ha
set_option maxRecDepth 20000 in
set_option maxHeartbeats 16000000 in
theorem rall_any (k : K8) (s : ByteArray) (at_ : Nat) (w : World) (hl : s.size ≤ 100000) (hat : at_ ≤ s.size) :
    Calls Try.prog 57 #[.agg #[.int .u32 (W k.k0), .int .u32 (W k.k1), .int .u32 (W k.k2), .int .u32 (W k.k3), .int .u32 (W k.k4), .int .u32 (W k.k5), .int .u32 (W k.k6), .int .u32 (W k.k7)], .string s, .int .i64 at_] w fun e w' => ∃ A' c' segs rs to cd, Hid (allP k s.data.toList (s.size + 1 - at_) [] at_ = (rs, to, cd)) ∧ Hid (segs.map SegV.key = rs.map GetR.key) ∧ e = .returned (.tuple #[.slice A' segs.length c', .int .i64 (to : Nat), .int .i64 (cd : Nat)]) ∧ Sgs w' A' segs ∧ (∀ s ∈ segs, Bts w' s.A s.body) ∧ Below w.heap.size w w' := by
  have hS0 : RlS w k none 0 [] (w.alloc (.cells #[.int .u32 (W k.k0), .int .u32 (W k.k1), .int .u32 (W k.k2), .int .u32 (W k.k3), .int .u32 (W k.k4), .int .u32 (W k.k5), .int .u32 (W k.k6), .int .u32 (W k.k7)] 32)) := ⟨Holds.newAt w 32 [.int .u32 (W k.k0), .int .u32 (W k.k1), .int .u32 (W k.k2), .int .u32 (W k.k3), .int .u32 (W k.k4), .int .u32 (W k.k5), .int .u32 (W k.k6), .int .u32 (W k.k7)] rfl, OwnS.nil _ _, by simp, (Below.refl _ _).alloc (Nat.le_refl _) _⟩
  have HS0 := Lib.hid hS0
  have hsl : Hid (s.data.toList.length = s.size) := rfl
  clear hS0
  go_enter Try.func57, Try.ntmps57
  go_wp2_with fail
  go_loopw [2, 9] (fun x v wr => ∃ (at' f : Nat) (A2 : Option Addr) (c2 : Nat) (segs : List SegV) (rs : List GetR), at' ≤ s.size ∧ at_ ≤ at' ∧ segs.length ≤ at' - at_ ∧ s.size - at' < f ∧ x = .int .i64 at' ∧ v = .slice A2 segs.length c2 ∧ Hid (RlS w k A2 c2 segs wr) ∧ Hid (allP k s.data.toList f rs at' = allP k s.data.toList (s.size + 1 - at_) [] at_) ∧ Hid (segs.map SegV.key = rs.map GetR.key)) (fun x _ _ => s.size + 1 - (intOf x).toNat)
  case atStart => exact ⟨at_, s.size + 1 - at_, none, 0, [], [], hat, Nat.le_refl _, by simp, by omega, rfl, rfl, HS0, rfl, rfl⟩
  case round =>
    obtain ⟨at', f, A2, c2, segs, rs, hat', hle, hsl2, hf, rfl, rfl, HS, hAl, hkey⟩ := hrel
    obtain ⟨R, hR⟩ : ∃ R, Hid (R = getP k s.data.toList at' segs.length) := ⟨_, rfl⟩
    have hrl : rs.length = segs.length := by
      have := congrArg List.length hkey.out
      simpa using this.symm
    obtain ⟨f, rfl⟩ : ∃ f', f = f' + 1 := ⟨f - 1, by omega⟩
    have hstep := hAl.out
    rw [allP, hrl, ← hR.out] at hstep
    have h8 := HS.out.kh.eight
    clear hrl hAl
    by_cases hcd : R.code = 0
    case neg =>
      rw [if_pos hcd] at hstep
      have HT := Lib.hid hstep
      clear hstep
      have hcI : ((R.code : Int) == 0) = false := beq_eq_false_iff_ne.2 (by omega)
      go_wp2_with fail
      refine (ropen_any k s at' _ _ hl hat' R hR).mono ?_
      rintro e w1 ⟨A1, c1, rfl, _, _, hb1⟩
      have HB := Lib.hid hb1
      clear hb1 h8
      go_wp2_with fail
      have hS2 := (HS.out.keep HB.out).keep ((Below.refl _ _).alloc (Nat.le_refl _) (.cells #[.int .i64 (R.kind : Int), .int .i64 (R.place : Int), .bool R.last, .slice A1 R.body.length c1] 81))
      exact bodyPost_ret (v := .tuple #[.slice A2 segs.length c2, .int .i64 at', .int .i64 R.code]) (by simp [results, Try.results57, go_sem]) rfl ⟨A2, c2, segs, rs, at', R.code, HT.out.symm, hkey, rfl, hS2.oh.sgs, fun s hs => (hS2.sh s hs).1, hS2.wh⟩
    case pos =>
      have hto := getP_to k s.data.toList at' segs.length hat' (by rw [← hR.out]; exact hcd)
      rw [← hR.out] at hto
      obtain ⟨hto1, hto2⟩ := hto
      rw [hsl.out] at hto2
      rw [if_neg (by omega)] at hstep
      have hcI : ((R.code : Int) == 0) = true := beq_iff_eq.2 (by omega)
      have hcI2 : (R.code : Int) = 0 := by omega
      cases hla : R.last
      case false =>
        rw [hla, if_neg (by simp)] at hstep
        have HT := Lib.hid hstep
        clear hstep
        go_wp2_with fail
        refine (ropen_any k s at' _ _ hl hat' R hR).mono ?_
        rintro e w1 ⟨A1, c1, rfl, hB1, hge1, hb1⟩
        rw [hla]
        have hS1 := HS.out.keep hb1
        have hb2 : Below w1.heap.size w1 ((w1.alloc (.cells #[.int .i64 (R.kind : Int), .int .i64 (R.place : Int), .bool false, .slice A1 R.body.length c1] 81)).alloc (.cells #[.int .i64 (R.kind : Int), .int .i64 (R.place : Int), .bool false, .slice A1 R.body.length c1] 81)) := ((Below.refl _ _).alloc (Nat.le_refl _) _).alloc (by simp) _
        have hS2 := hS1.keep hb2
        have hOS := hS2.oh
        have hSg : Sgs ((w1.alloc (.cells #[.int .i64 (R.kind : Int), .int .i64 (R.place : Int), .bool false, .slice A1 R.body.length c1] 81)).alloc (.cells #[.int .i64 (R.kind : Int), .int .i64 (R.place : Int), .bool false, .slice A1 R.body.length c1] 81)) (some ⟨w1.heap.size + 1, 0, none⟩) [⟨(R.kind : Int), (R.place : Int), false, A1, R.body, c1⟩] := Sgs.of_holds (t := 81) (Holds.newAt _ 81 _ (by simp))
        have hHs : Holds ((w1.alloc (.cells #[.int .i64 (R.kind : Int), .int .i64 (R.place : Int), .bool false, .slice A1 R.body.length c1] 81)).alloc (.cells #[.int .i64 (R.kind : Int), .int .i64 (R.place : Int), .bool false, .slice A1 R.body.length c1] 81)) w1.heap.size 81 [.int .i64 (R.kind : Int), .int .i64 (R.place : Int), .bool false, .slice A1 R.body.length c1] := (Holds.newAt w1 81 _ rfl).alloc _
        have hkl := HS.out.kh.lt
        have hw1 := hb1.size
        have hsz : w.heap.size + 1 ≤ ((w1.alloc (.cells #[.int .i64 (R.kind : Int), .int .i64 (R.place : Int), .bool false, .slice A1 R.body.length c1] 81)).alloc (.cells #[.int .i64 (R.kind : Int), .int .i64 (R.place : Int), .bool false, .slice A1 R.body.length c1] 81)).heap.size := by simp; omega
        have hOw : Away ((w1.alloc (.cells #[.int .i64 (R.kind : Int), .int .i64 (R.place : Int), .bool false, .slice A1 R.body.length c1] 81)).alloc (.cells #[.int .i64 (R.kind : Int), .int .i64 (R.place : Int), .bool false, .slice A1 R.body.length c1] 81)) A2 ⟨(R.kind : Int), (R.place : Int), false, A1, R.body, c1⟩ := ⟨hB1.below hb2, fun _ b o e e2 => by
          have h1 := hge1 b o e
          have h2 := (HS.out.oh.lt _ e2).2
          omega⟩
        have hne : some w1.heap.size ≠ blk A2 := fun e => by
          have := (HS.out.oh.lt _ e.symm).2
          omega
        clear h8
        go_wp2_with (at_builtin; refine wpList_appS rfl (.tmp 28) (.tmp 30) rfl (by rfl) hOS (by rfl) hSg (by simp; omega) hsz ?_; intro A3 c3 r3 w3 hr3 ho3 hg3 ha3; have hc3 := (hHs.grown hg3 hne).four)
        go_round
        case rel =>
          have hS3 := hS2.grown hOw hr3 ho3 hg3 ha3
          have hr3l : r3.length = segs.length + 1 := by rw [hr3.out]; simp
          refine ⟨R.to, f, A3, c3, r3, rs ++ [R], hto2, by omega, by omega, by omega, rfl, rfl, Lib.hid hS3, HT, Lib.hid ?_⟩
          rw [hr3.out, List.map_append, List.map_append, hkey.out]
          simp [SegV.key, GetR.key, hla]
        case measure => simp [intOf]; omega
      case true =>
        rw [hla, if_pos rfl] at hstep
        have HT := Lib.hid hstep
        clear hstep
        go_wp2_with fail
        refine (ropen_any k s at' _ _ hl hat' R hR).mono ?_
        rintro e w1 ⟨A1, c1, rfl, hB1, hge1, hb1⟩
        rw [hla]
        have hS1 := HS.out.keep hb1
        have hb2 : Below w1.heap.size w1 ((w1.alloc (.cells #[.int .i64 (R.kind : Int), .int .i64 (R.place : Int), .bool true, .slice A1 R.body.length c1] 81)).alloc (.cells #[.int .i64 (R.kind : Int), .int .i64 (R.place : Int), .bool true, .slice A1 R.body.length c1] 81)) := ((Below.refl _ _).alloc (Nat.le_refl _) _).alloc (by simp) _
        have hS2 := hS1.keep hb2
        have hOS := hS2.oh
        have hSg : Sgs ((w1.alloc (.cells #[.int .i64 (R.kind : Int), .int .i64 (R.place : Int), .bool true, .slice A1 R.body.length c1] 81)).alloc (.cells #[.int .i64 (R.kind : Int), .int .i64 (R.place : Int), .bool true, .slice A1 R.body.length c1] 81)) (some ⟨w1.heap.size + 1, 0, none⟩) [⟨(R.kind : Int), (R.place : Int), true, A1, R.body, c1⟩] := Sgs.of_holds (t := 81) (Holds.newAt _ 81 _ (by simp))
        have hHs : Holds ((w1.alloc (.cells #[.int .i64 (R.kind : Int), .int .i64 (R.place : Int), .bool true, .slice A1 R.body.length c1] 81)).alloc (.cells #[.int .i64 (R.kind : Int), .int .i64 (R.place : Int), .bool true, .slice A1 R.body.length c1] 81)) w1.heap.size 81 [.int .i64 (R.kind : Int), .int .i64 (R.place : Int), .bool true, .slice A1 R.body.length c1] := (Holds.newAt w1 81 _ rfl).alloc _
        have hkl := HS.out.kh.lt
        have hw1 := hb1.size
        have hsz : w.heap.size + 1 ≤ ((w1.alloc (.cells #[.int .i64 (R.kind : Int), .int .i64 (R.place : Int), .bool true, .slice A1 R.body.length c1] 81)).alloc (.cells #[.int .i64 (R.kind : Int), .int .i64 (R.place : Int), .bool true, .slice A1 R.body.length c1] 81)).heap.size := by simp; omega
        have hOw : Away ((w1.alloc (.cells #[.int .i64 (R.kind : Int), .int .i64 (R.place : Int), .bool true, .slice A1 R.body.length c1] 81)).alloc (.cells #[.int .i64 (R.kind : Int), .int .i64 (R.place : Int), .bool true, .slice A1 R.body.length c1] 81)) A2 ⟨(R.kind : Int), (R.place : Int), true, A1, R.body, c1⟩ := ⟨hB1.below hb2, fun _ b o e e2 => by
          have h1 := hge1 b o e
          have h2 := (HS.out.oh.lt _ e2).2
          omega⟩
        have hne : some w1.heap.size ≠ blk A2 := fun e => by
          have := (HS.out.oh.lt _ e.symm).2
          omega
        clear h8
        go_wp2_with (at_builtin; refine wpList_appS rfl (.tmp 28) (.tmp 30) rfl (by rfl) hOS (by rfl) hSg (by simp; omega) hsz ?_; intro A3 c3 r3 w3 hr3 ho3 hg3 ha3; have hc3 := (hHs.grown hg3 hne).four)
        have hS3 := hS2.grown hOw hr3 ho3 hg3 ha3
        exact bodyPost_ret (v := .tuple #[.slice A3 r3.length c3, .int .i64 R.to, .int .i64 0]) (by simp [results, Try.results57, go_sem]) rfl ⟨A3, c3, r3, rs ++ [R], R.to, 0, HT.out.symm, Lib.hid (by
          rw [hr3.out, List.map_append, List.map_append, hkey.out]
          simp [SegV.key, GetR.key, hla]), rfl, hS3.oh.sgs, fun s hs => (hS3.sh s hs).1, hS3.wh⟩
end Go.Proofs.Ytcdklmicbbcknaa

namespace Go.Proofs.Ytcdklmicbbcknaa
open Go Go.RowKit
theorem numL_cut (b : List UInt8) (at_ v most m : Nat) (hd : b.drop at_ = (putL v).take m) (hle : at_ ≤ b.length) (hm : m < (putL v).length) (hv : v ≤ 18446744073709551615) : (numL b at_ most).2.2 = 5 := by
  unfold numL
  rw [read_cut b at_ v m hd hle hm hv]
  simp
theorem take_app_ge {α : Type} (a b : List α) (n : Nat) (h : a.length ≤ n) : (a ++ b).take n = a ++ b.take (n - a.length) := by
  rw [List.take_append, List.take_of_length_le h]
theorem getP_cut (k : K8) (pre : List UInt8) (y : UInt8) (P : Nat) (l : List UInt8) (q : Nat) (place : Int) (hy1 : 1 ≤ y.toNat) (hy3 : y.toNat ≤ 3) (hP : P ≤ 1048576) (hl : l.length ≤ 12100) (hq : q < (sealL k y P l).length) :
    getP k (pre ++ (sealL k y P l).take q) pre.length place = failR pre.length 5 := by
  have hsl : (sealL k y P l).length = 1 + (putL P).length + (putL l.length).length + l.length + 8 := by
    rw [sealL, List.length_append, sealB_len, tagL_len]
  have hS : sealL k y P l = y :: (putL P ++ (putL l.length ++ (xorL (streamL k P l.length) l ++ tagL k P (sealB k y P l)))) := by
    simp [sealL, sealB, List.append_assoc]
  have hlen : (pre ++ (sealL k y P l).take q).length = pre.length + q := by rw [List.length_append, List.length_take]; omega
  rcases q with _ | q
  · unfold getP
    rw [if_pos (by omega)]
  · have hb : pre ++ (sealL k y P l).take (q + 1) = pre ++ (y :: (putL P ++ (putL l.length ++ (xorL (streamL k P l.length) l ++ tagL k P (sealB k y P l)))).take q) := by
      rw [hS, List.take_succ_cons]
    obtain ⟨hg, _, hd1⟩ := getD_drop _ _ _ _ (show (pre ++ (sealL k y P l).take (q + 1)).drop pre.length = y :: (putL P ++ (putL l.length ++ (xorL (streamL k P l.length) l ++ tagL k P (sealB k y P l)))).take q by rw [hb, drop_app])
    unfold getP
    rw [if_neg (by omega), hg, if_neg (by omega)]
    by_cases h1 : q < (putL P).length
    · rw [List.take_append_of_le_length (by omega)] at hd1
      have e1 := numL_cut _ (pre.length + 1) P 1048576 q hd1 (by rw [hlen]; omega) h1 (by omega)
      rw [if_pos (by rw [e1]; simp), e1]
    · rw [take_app_ge _ _ _ (by omega)] at hd1
      have e1 := numL_put _ _ P 1048576 _ hd1 hP (by omega)
      have hd2 : (pre ++ (sealL k y P l).take (q + 1)).drop (pre.length + 1 + (putL P).length) = (putL l.length ++ (xorL (streamL k P l.length) l ++ tagL k P (sealB k y P l))).take (q - (putL P).length) := by
        rw [← List.drop_drop, hd1, List.drop_left]
      rw [e1]
      dsimp only
      rw [if_neg (by simp)]
      by_cases h2 : q - (putL P).length < (putL l.length).length
      · rw [List.take_append_of_le_length (by omega)] at hd2
        have e2 := numL_cut _ (pre.length + 1 + (putL P).length) l.length 12100 _ hd2 (by rw [hlen]; omega) h2 (by omega)
        rw [if_pos (by rw [e2]; simp), e2]
      · rw [take_app_ge _ _ _ (by omega)] at hd2
        have e2 := numL_put _ _ l.length 12100 _ hd2 hl (by omega)
        rw [e2]
        dsimp only
        rw [if_neg (by simp), if_pos (by rw [hlen]; omega)]
/-- the places where segments end -/
def offS (k : K8) (D : List SegD) (i : Nat) : Nat := (catS k (D.take i)).length
theorem offS_succ (k : K8) (D : List SegD) (i : Nat) (hi : i < D.length) : offS k D (i + 1) = offS k D i + ((D[i]).bytes k).length := by
  unfold offS
  rw [catS_take k D i hi, List.length_append]
theorem offS_le (k : K8) (D : List SegD) (i : Nat) (hi : i < D.length) : offS k D i ≤ (catS k D).length := by
  have := congrArg List.length (catS_split k D i hi)
  rw [List.length_append] at this
  unfold offS; omega
theorem offS_mono (k : K8) (D : List SegD) (i n : Nat) (hin : i ≤ n) (hn : n ≤ D.length) : offS k D i ≤ offS k D n := by
  induction n with
  | zero => obtain rfl : i = 0 := by omega
            exact Nat.le_refl _
  | succ n ih =>
    by_cases h : i = n + 1
    · subst h; exact Nat.le_refl _
    · have := ih (by omega) (by omega)
      rw [offS_succ k D n (by omega)]; omega
theorem offS_all (k : K8) (D : List SegD) : offS k D D.length = (catS k D).length := by unfold offS; rw [List.take_length]
theorem offS_idx (k : K8) (D : List SegD) (hg : ∀ s ∈ D, s.good) : ∀ n, n ≤ D.length → n ≤ offS k D n
  | 0, _ => Nat.zero_le _
  | n + 1, h => by
    have ih := offS_idx k D hg n (by omega)
    have hb := (bytes_len k D[n] (hg _ (List.getElem_mem _))).2
    rw [offS_succ k D n (by omega)]; omega
/-- bytes that agree with a row's up to the end of the i-th -/
theorem agree_at (k : K8) (D : List SegD) (t : List UInt8) (i : Nat) (hi : i < D.length) (m : Nat) (hm : offS k D (i + 1) ≤ m) (ht : t.take m = (catS k D).take m) (hml : m ≤ t.length) :
    offS k D i ≤ t.length ∧ ∃ post, t.drop (offS k D i) = (D[i]).bytes k ++ post := by
  have hs := offS_succ k D i hi
  have h1 : (t.take m).drop (offS k D i) = ((D[i]).bytes k ++ catS k (D.drop (i + 1))).take (m - offS k D i) := by
    rw [ht, List.drop_take]
    congr 1
    have h := congrArg (List.drop (offS k D i)) (catS_split k D i hi)
    unfold offS at h ⊢
    rw [List.drop_left] at h
    exact h
  rw [take_app_ge _ _ _ (by omega)] at h1
  refine ⟨by omega, (catS k (D.drop (i + 1))).take (m - offS k D i - ((D[i]).bytes k).length) ++ t.drop m, ?_⟩
  have h2 : t.drop (offS k D i) = (t.take m).drop (offS k D i) ++ t.drop m := by
    conv => lhs; rw [← List.take_append_drop m t]
    rw [List.drop_append_of_le_length (by rw [List.length_take]; omega)]
  rw [h2, h1, List.append_assoc]
/-- the first n of them are read -/
theorem allP_agree (k : K8) (D : List SegD) (hg : ∀ s ∈ D, s.good) (n : Nat) (hn : n ≤ D.length) (hP : ∀ i (hi : i < n), (D[i]'(by omega)).P = i ∧ (D[i]'(by omega)).y.toNat ≠ 3) (t : List UInt8) (m : Nat) (hm : offS k D n ≤ m) (ht : t.take m = (catS k D).take m) (hml : m ≤ t.length) (f : Nat) :
    allP k t (f + n) [] 0 = allP k t f (okRs k D n hn) (offS k D n) := by
  refine allP_n k t D f n hn (fun i hi => ⟨?_, (hP i hi).2⟩)
  have hm2 := offS_mono k D (i + 1) n (by omega) hn
  obtain ⟨h1, post, h2⟩ := agree_at k D t i (by omega) m (by omega) ht hml
  have h3 := getP_at k t D i (by omega) (hg _ (List.getElem_mem _)) post h1 h2 (i : Int)
  rw [h3, if_neg (by rw [(hP i hi).1]; simp)]
theorem all_full (k : K8) (D : List SegD) (hg : ∀ s ∈ D, s.good) (N : Nat) (hN : D.length = N + 1) (hP : ∀ i (hi : i < N), (D[i]'(by omega)).P = i ∧ (D[i]'(by omega)).y.toNat ≠ 3) (hl : (D[N]).P = N ∧ (D[N]).y.toNat = 3) :
    allP k (catS k D) ((catS k D).length + 1 - 0) [] 0 = (okRs k D (N + 1) (by omega), (catS k D).length, 0) := by
  have hidx := offS_idx k D hg D.length (Nat.le_refl _)
  rw [offS_all] at hidx
  obtain ⟨f, hf⟩ : ∃ f, (catS k D).length + 1 - 0 = (f + 1) + N := ⟨(catS k D).length + 1 - N - 1, by omega⟩
  have hm := offS_mono k D N D.length (by omega) (Nat.le_refl _)
  rw [offS_all] at hm
  rw [hf, allP_agree k D hg N (by omega) hP (catS k D) (catS k D).length hm rfl (Nat.le_refl _) (f + 1), allP, okRs_len]
  have hgt : getP k (catS k D) (offS k D N) (N : Int) = okR k D N (by omega) := by
    obtain ⟨h1, post, h2⟩ := agree_at k D (catS k D) N (by omega) (catS k D).length (by rw [← hN, offS_all]; exact Nat.le_refl _) rfl (Nat.le_refl _)
    rw [show offS k D N = (catS k (D.take N)).length from rfl] at h1 h2 ⊢
    rw [getP_at k _ D N (by omega) (hg _ (List.getElem_mem _)) post h1 h2, if_neg (by rw [hl.1]; simp)]
  rw [hgt, if_neg (by simp [okR]), if_pos (by simp [okR, hl.2]), okRs_succ k D N (by omega)]
  have e : (okR k D N (by omega)).to = (catS k D).length := by
    show (catS k (D.take (N + 1))).length = _
    rw [← hN, List.take_length]
  rw [e]
theorem all_cut (k : K8) (D : List SegD) (hg : ∀ s ∈ D, s.good) (n : Nat) (hn : n < D.length) (hP : ∀ i (hi : i < n), (D[i]'(by omega)).P = i ∧ (D[i]'(by omega)).y.toNat ≠ 3) (c : Nat) (h1 : offS k D n ≤ c) (h2 : c < offS k D (n + 1)) :
    allP k ((catS k D).take c) (((catS k D).take c).length + 1 - 0) [] 0 = (okRs k D n (by omega), offS k D n, 5) := by
  have hle := offS_mono k D (n + 1) D.length (by omega) (Nat.le_refl _)
  rw [offS_all] at hle
  have hcl : ((catS k D).take c).length = c := by rw [List.length_take]; omega
  have hidx := offS_idx k D hg n (by omega)
  rw [hcl]
  obtain ⟨f, hf⟩ : ∃ f, c + 1 - 0 = (f + 1) + n := ⟨c + 1 - n - 1, by omega⟩
  rw [hf, allP_agree k D hg n (by omega) hP ((catS k D).take c) c h1 (by rw [List.take_take, Nat.min_self]) (by omega) (f + 1), allP, okRs_len]
  have hs := offS_succ k D n hn
  have hb : (catS k D).take c = catS k (D.take n) ++ ((D[n]).bytes k).take (c - offS k D n) := by
    conv => lhs; rw [catS_split k D n hn]
    rw [take_app_ge _ _ _ (by unfold offS at h1; exact h1), List.take_append_of_le_length (by unfold offS at h1 h2 hs; omega)]
    rfl
  obtain ⟨g1, g2, g3, g4⟩ := hg _ (List.getElem_mem hn)
  have hget : getP k ((catS k D).take c) (offS k D n) (n : Int) = failR (offS k D n) 5 := by
    rw [hb]
    exact getP_cut k (catS k (D.take n)) (D[n]).y (D[n]).P (D[n]).body (c - offS k D n) n g1 g2 (by omega) (by omega) (by unfold SegD.bytes at hs; omega)
  rw [hget, if_pos (by simp [failR])]
  rfl
theorem allP_pre (k : K8) (b : List UInt8) : ∀ (f : Nat) (acc : List GetR) (at_ : Nat), at_ ≤ b.length → (∃ more, (allP k b f acc at_).1 = acc ++ more) ∧ (allP k b f acc at_).2.1 ≤ b.length
  | 0, acc, at_, h => ⟨⟨[], by simp [allP]⟩, h⟩
  | f + 1, acc, at_, h => by
    rw [allP]
    by_cases h1 : (getP k b at_ acc.length).code ≠ 0
    · rw [if_pos h1]; exact ⟨⟨[], by simp⟩, h⟩
    · rw [if_neg h1]
      have ht := getP_to k b at_ acc.length h (Classical.not_not.1 h1)
      by_cases h2 : (getP k b at_ acc.length).last = true
      · rw [if_pos h2]; exact ⟨⟨_, rfl⟩, ht.2⟩
      · rw [if_neg h2]
        obtain ⟨⟨more, hm⟩, hto⟩ := allP_pre k b f (acc ++ [getP k b at_ acc.length]) _ ht.2
        exact ⟨⟨_, by rw [hm, List.append_assoc]⟩, hto⟩
theorem all_turn (k : K8) (D : List SegD) (hg : ∀ s ∈ D, s.good) (n : Nat) (hn : n < D.length) (hP : ∀ i (hi : i < n), (D[i]'(by omega)).P = i ∧ (D[i]'(by omega)).y.toNat ≠ 3) (t : List UInt8) (j : Nat) (h1 : offS k D n ≤ j) (ht : t.take j = (catS k D).take j) (htl : t.length = (catS k D).length) (hj : j < t.length) :
    (∃ more, (allP k t (t.length + 1 - 0) [] 0).1 = okRs k D n (by omega) ++ more) ∧ (allP k t (t.length + 1 - 0) [] 0).2.1 ≤ t.length := by
  have hidx := offS_idx k D hg n (by omega)
  obtain ⟨f, hf⟩ : ∃ f, t.length + 1 - 0 = f + n := ⟨t.length + 1 - n, by omega⟩
  rw [hf, allP_agree k D hg n (by omega) hP t j h1 ht (by omega) f]
  exact allP_pre k t f _ _ (by omega)
end Go.Proofs.Ytcdklmicbbcknaa

namespace Go.Proofs.Ytcdklmicbbcknaa
open Go Go.RowKit
set_option linter.unusedVariables false
def ivals (l : List Nat) : List Value := l.map fun (n : Nat) => Value.int .i64 (n : Int)
def OwnI (w : World) (base : Nat) (A : Option Addr) (c : Nat) (l : List Nat) : Prop := w.ownsRow base 3 1 (.slice A l.length c) l.length (ivals l)
theorem info3i : (Try.prog.info? 3).map (fun i => (i.zero, i.size, i.bytes)) = some (some (.int .i64 0), 1, 8) := by kernel_rfl
theorem rows_kept {w w' : World} {b1 b2 e1 e2 s1 s2 : Nat} {v1 v2 : Value} {n1 n2 : Nat} {x1 x2 : List Value} (h1 : w.ownsRow b1 e1 s1 v1 n1 x1) (h2 : w.ownsRow b2 e2 s2 v2 n2 x2) (hne : e1 ≠ e2) (hg : w.grownBy w' v2.ownBlock) : w'.ownsRow b1 e1 s1 v1 n1 x1 := by
  refine World.ownsRow.kept h1 hg ?_
  rcases h1.2 with ⟨rfl, _⟩ | ⟨g, cap, cur, rfl, _, hh, _⟩
  · exact .inl rfl
  · rcases h2.2 with ⟨rfl, _⟩ | ⟨g2, cap2, cur2, rfl, _, hh2, _⟩
    · exact .inr (by simp [Value.ownBlock])
    · refine .inr fun e => ?_
      have e3 : g = g2 := by simpa [Value.ownBlock] using e
      subst e3
      rw [hh] at hh2
      simp only [Option.some.injEq, Obj.cells.injEq] at hh2
      exact hne hh2.2.1
theorem OwnI.keptB {w w' : World} {base b2 c c2 : Nat} {A A2 : Option Addr} {l : List Nat} {m : List UInt8} (h : OwnI w base A c l) (h2 : Own w b2 A2 c2 m) (hg : w.grownBy w' (blk A2)) : OwnI w' base A c l := rows_kept h h2 (by decide) (by rw [ownBlock_blk]; exact hg)
theorem Own.keptI {w w' : World} {base b2 c c2 : Nat} {A A2 : Option Addr} {l : List Nat} {m : List UInt8} (h : Own w base A c m) (h2 : OwnI w b2 A2 c2 l) (hg : w.grownBy w' (blk A2)) : Own w' base A c m := rows_kept h h2 (by decide) (by rw [ownBlock_blk]; exact hg)
theorem OwnI.nil (w : World) (base : Nat) : OwnI w base none 0 [] := World.ownsRow_nil w base 3 1
theorem OwnI.lt {w : World} {base c : Nat} {A : Option Addr} {l : List Nat} (h : OwnI w base A c l) : ∀ k, blk A = some k → base ≤ k ∧ k < w.heap.size := by
  have := World.ownsRow.lt h
  rw [ownBlock_blk] at this
  exact this
theorem OwnI.below {w w' : World} {base c : Nat} {A : Option Addr} {l : List Nat} (h : OwnI w base A c l) (hb : Below w.heap.size w w') : OwnI w' base A c l := by
  obtain ⟨h1, h2⟩ := h
  refine ⟨h1, ?_⟩
  rcases h2 with h2 | ⟨g, cap, cur, hv, hg, hh, r⟩
  · exact .inl h2
  · have hlt : g < w.heap.size := by
      rcases Nat.lt_or_ge g w.heap.size with hl | hl
      · exact hl
      · rw [Array.getElem?_eq_none hl] at hh; cases hh
    exact .inr ⟨g, cap, cur, hv, hg, (hb.block g hlt).trans hh, r⟩
theorem OwnI.cells {w : World} {base c : Nat} {A : Option Addr} {l : List Nat} (h : OwnI w base A c l) (h0 : 0 < l.length) : ∃ g, A = some ⟨g, 0, none⟩ ∧ base ≤ g ∧ g < w.heap.size ∧ (∃ cur, w.heap[g]? = some (.cells cur 3)) ∧ ∀ j, j < l.length → w.cell? ⟨g, j, none⟩ = some (.int .i64 ((l.getD j 0 : Nat) : Int)) := by
  rcases h.2 with ⟨_, h1⟩ | ⟨g, cap, cur, hv, hb, hh, hn, _, hcs, ht⟩
  · omega
  · injection hv with hA _ _
    subst hA
    refine ⟨g, rfl, hb, ?_, ⟨cur, hh⟩, fun j hj => ?_⟩
    · rcases Nat.lt_or_ge g w.heap.size with hl | hl
      · exact hl
      · rw [Array.getElem?_eq_none hl] at hh; cases hh
    · have hc := cell_of_row w g j cur 3 (0, 0) hh
      have hv : (ivals l)[j]? = some (.int .i64 ((l.getD j 0 : Nat) : Int)) := by
        simp [ivals, List.getD_eq_getElem?_getD, List.getElem?_eq_getElem hj]
      rw [hc, ← hv, ← ht]
      rw [List.getElem?_take, if_pos (by omega)]; simp
theorem wpList_appI {ops : Array Oper} {rest : List Oper} {o : Oper} {a : Act} {Q : Exit → Act → World → Prop} {w : World} {base c : Nat} {A : Option Addr} {l : List Nat} (hgd : o.guard = none) (s x : Operand)
    (ho : o.op = .call { callee := .builtin .append, args := #[s, x], argTypes := #[62, 62] }) (hs : a.eval s = .slice A l.length c) (h : OwnI w base A c l) {g v c2 : Nat} (hx : a.eval x = .slice (some ⟨g, 0, none⟩) 1 c2) (hm : w.cell? ⟨g, 0, none⟩ = some (.int .i64 (v : Int)))
    (hlen : l.length ≤ 1000) (hbase : base ≤ w.heap.size)
    (hK : ∀ A' c' r w', Hid (r = l ++ [v]) → OwnI w' base A' c' r → w.grownBy w' (blk A) → wpList Try.prog ops Q rest (a.put o.dst (.slice A' r.length c')) w') : wpList Try.prog ops Q (o :: rest) a w :=
  wpList_plain hgd fun _ hK' => by
    obtain ⟨i, hi, hz, hs', hby⟩ := info_parts info3i
    obtain ⟨v', w', hr, h2, h3, _, h5⟩ := run_append_own_at (P := Try.prog) w base 62 o.type 3 i (.int .i64 0) 1 8 Try.underlying62 hi hz hs' hby rfl (by omega) _ _ _ h ⟨g, 0, none⟩ 1 c2 [.int .i64 (v : Int)] rfl
      (fun j u hu => by
        rcases j with _ | j
        · simp at hu; subst hu; simpa [add_plain] using hm
        · simp at hu)
      (fun u hu => by obtain rfl := List.mem_singleton.1 hu; rfl) (by simp only [maxLen]; omega) (by omega) hbase
    have hiv : ivals (l ++ [v]) = ivals l ++ [.int .i64 (v : Int)] := by simp [ivals]
    have hform : ∃ A' c', v' = .slice A' (l ++ [v]).length c' := by
      rcases h2.2 with ⟨e, h0⟩ | ⟨g, cap, cur, e, _⟩
      · omega
      · exact ⟨_, cap, by rw [e, List.length_append]; rfl⟩
    obtain ⟨A', c', rfl⟩ := hform
    unfold Oper.wp execOp
    simp only [ho, resolve, invoke, builtin, Sem.run_bind, Sem.run_pure, Result.andThen_ok, List.map_toArray, List.map_cons, List.map_nil, hs, hx, hr]
    refine hK' _ _ (hK A' c' _ w' rfl ?_ (by rw [ownBlock_blk] at h3; exact h3))
    unfold OwnI
    rw [hiv, List.length_append]
    rw [List.length_append] at h2
    exact h2
theorem exists_n (k : K8) (D : List SegD) (c : Nat) : ∀ n, n ≤ D.length → c < offS k D n → ∃ q, q < n ∧ offS k D q ≤ c ∧ c < offS k D (q + 1)
  | 0, _, h => by simp [offS, catS] at h
  | n + 1, hn, h => by
    by_cases h1 : offS k D n ≤ c
    · exact ⟨n, by omega, h1, h⟩
    · obtain ⟨q, hq, h2⟩ := exists_n k D c n (by omega) (by omega)
      exact ⟨q, by omega, h2⟩
/-- a row that ends well -/
structure RowOk (D : List SegD) (N : Nat) : Prop where
  len : D.length = N + 1
  good : ∀ s ∈ D, s.good
  first : ∀ i (hi : i < N), (D[i]'(by omega)).P = i ∧ (D[i]'(by omega)).y.toNat ≠ 3
  last : (D[N]).P = N ∧ (D[N]).y.toNat = 3
theorem rowD_ok (l : List SegV) (hl : l.length ≤ 6) (hb : ∀ s ∈ l, s.body.length ≤ 300) : RowOk (rowD l) l.length :=
  ⟨rowD_len l, rowD_good l hl hb, fun i hi => ⟨rowD_P l i (by rw [rowD_len]; omega), by rw [rowD_at l i hi]; exact (rowY_ne _).1⟩, ⟨rowD_P l _ (by rw [rowD_len]; omega), by rw [rowD_last l]; rfl⟩⟩
theorem sr_full (k : K8) (D : List SegD) (N : Nat) (hD : Hid (RowOk D N)) (A : Option Addr) (b : List UInt8) (c : Nat) (w : World) (hb : Hid (b = catS k D)) (hll : b.length ≤ 100000) (hc : b.length ≤ c) (hB : Bts w A b) :
    Calls Try.prog 55 #[.agg #[.int .u32 (W k.k0), .int .u32 (W k.k1), .int .u32 (W k.k2), .int .u32 (W k.k3), .int .u32 (W k.k4), .int .u32 (W k.k5), .int .u32 (W k.k6), .int .u32 (W k.k7)], .slice A b.length c, .int .i64 0] w fun e w' => ∃ A' c' segs, Hid (segs.map SegV.key = D.map SegD.key) ∧ Hid (segs.length = N + 1) ∧ e = .returned (.tuple #[.slice A' (N + 1) c', .int .i64 (b.length : Nat), .int .i64 0]) ∧ Sgs w' A' segs ∧ (∀ s ∈ segs, Bts w' s.A s.body) ∧ Below w.heap.size w w' := by
  refine (all_any k A b c 0 w hll hc hB (by omega)).mono ?_
  rintro e w' ⟨A', c', segs, rs, to, cd, hA, hk, rfl, hO, hS, hbw⟩
  have h1 := all_full k D hD.out.good N hD.out.len hD.out.first hD.out.last
  rw [← hb.out] at h1
  have h2 := h1.symm.trans hA.out
  simp only [Prod.mk.injEq] at h2
  obtain ⟨rfl, rfl, rfl⟩ := h2
  have hsl : segs.length = N + 1 := by
    have := congrArg List.length hk.out
    simpa [okRs_len] using this
  refine ⟨A', c', segs, Lib.hid (by rw [hk.out, okRs_key, ← hD.out.len, List.take_length]), hsl, by rw [hsl]; rfl, hO.sgs, fun s hs => (hS s hs).bts, hbw⟩
theorem sr_cut (k : K8) (D : List SegD) (N : Nat) (hD : Hid (RowOk D N)) (g : Nat) (b : List UInt8) (c q n : Nat) (w : World) (hb : Hid (b = catS k D)) (hll : b.length ≤ 100000) (hc : b.length ≤ c) (hB : Bts w (some ⟨g, 0, none⟩) b) (hq : q < b.length) (hn : n < N + 1) (h1 : Hid (offS k D n ≤ q ∧ q < offS k D (n + 1))) :
    Calls Try.prog 55 #[.agg #[.int .u32 (W k.k0), .int .u32 (W k.k1), .int .u32 (W k.k2), .int .u32 (W k.k3), .int .u32 (W k.k4), .int .u32 (W k.k5), .int .u32 (W k.k6), .int .u32 (W k.k7)], .slice (some ⟨g, 0, none⟩) q c, .int .i64 0] w fun e w' => ∃ A' c' segs to, Hid (segs.map SegV.key = (D.take n).map SegD.key) ∧ Hid (segs.length = n) ∧ e = .returned (.tuple #[.slice A' n c', .int .i64 to, .int .i64 5]) ∧ Sgs w' A' segs ∧ (∀ s ∈ segs, Bts w' s.A s.body) ∧ Below w.heap.size w w' := by
  have hql : (b.take q).length = q := by rw [List.length_take]; omega
  have hBq : Bts w (some ⟨g, 0, none⟩) (b.take q) := by
    have := hB.part (by omega) 0 q (by omega)
    simpa using this
  have hal := all_any k (some ⟨g, 0, none⟩) (b.take q) c 0 w (by omega) (by omega) hBq (by omega)
  rw [hql] at hal
  refine hal.mono ?_
  rintro e w' ⟨A', c', segs, rs, to, cd, hA, hk, rfl, hO, hS, hbw⟩
  have hln := hD.out.len
  have h2 := all_cut k D hD.out.good n (by omega) (fun i hi => hD.out.first i (by omega)) q h1.out.1 h1.out.2
  rw [← hb.out, hql] at h2
  have h3 := h2.symm.trans hA.out
  simp only [Prod.mk.injEq] at h3
  obtain ⟨rfl, rfl, rfl⟩ := h3
  have hsl : segs.length = n := by
    have := congrArg List.length hk.out
    simpa [okRs_len] using this
  refine ⟨A', c', segs, _, Lib.hid (by rw [hk.out, okRs_key]), hsl, by rw [hsl]; rfl, hO.sgs, fun s hs => (hS s hs).bts, hbw⟩
/-- All of bytes that were turned at j: what it shares with the row -/
theorem sr_turn (k : K8) (D : List SegD) (N : Nat) (hD : Hid (RowOk D N)) (A : Option Addr) (b t : List UInt8) (T c j n : Nat) (v : UInt8) (w : World) (hT : t.length = T) (hb : Hid (b = catS k D)) (ht : Hid (t = b.set j v)) (hll : T ≤ 100000) (hc : T ≤ c) (hB : Bts w A t) (hj : j < T) (hn : n < N + 1) (h1 : Hid (offS k D n ≤ j)) :
    Calls Try.prog 55 #[.agg #[.int .u32 (W k.k0), .int .u32 (W k.k1), .int .u32 (W k.k2), .int .u32 (W k.k3), .int .u32 (W k.k4), .int .u32 (W k.k5), .int .u32 (W k.k6), .int .u32 (W k.k7)], .slice A T c, .int .i64 0] w fun e w' => ∃ A' c' segs rs to cd, Hid (allP k t (T + 1 - 0) [] 0 = (rs, to, cd)) ∧ Hid (segs.map SegV.key = rs.map GetR.key) ∧ Hid ((segs.take n).map SegV.key = (D.take n).map SegD.key ∧ to ≤ T) ∧ n ≤ segs.length ∧ e = .returned (.tuple #[.slice A' segs.length c', .int .i64 (to : Nat), .int .i64 (cd : Nat)]) ∧ OwnS w' w.heap.size A' c' segs ∧ (∀ s ∈ segs, Bts w' s.A s.body) ∧ Below w.heap.size w w' := by
  subst hT
  have hln := hD.out.len
  refine (all_any k A t c 0 w hll hc hB (by omega)).mono ?_
  rintro e w' ⟨A', c', segs, rs, to, cd, hA, hk, rfl, hO, hS, hbw⟩
  have htl : t.length = (catS k D).length := by rw [ht.out, List.length_set, hb.out]
  have htj : t.take j = (catS k D).take j := by rw [ht.out, List.take_set_of_le (Nat.le_refl _), hb.out]
  obtain ⟨⟨more, hm⟩, hto⟩ := all_turn k D hD.out.good n (by omega) (fun i hi => hD.out.first i (by omega)) t j h1.out htj htl hj
  rw [hA.out] at hm hto
  dsimp only at hm hto
  have hsl : segs.length = rs.length := by
    have := congrArg List.length hk.out
    simpa using this
  refine ⟨A', c', segs, rs, to, cd, hA, hk, Lib.hid ⟨?_, hto⟩, ?_, rfl, hO, fun s hs => (hS s hs).bts, hbw⟩
  · rw [List.map_take, hk.out, ← List.map_take, hm, List.take_append_of_le_length (by rw [okRs_len]; exact Nat.le_refl _), List.take_of_length_le (by rw [okRs_len]; exact Nat.le_refl _), okRs_key]
  · rw [hsl, hm, List.length_append, okRs_len]; omega
theorem sr_ref (k : K8) (t : List UInt8) (T : Nat) (hT : t.length = T) (hl : T ≤ 100000) (rs : List GetR) (to cd : Nat) (hA : Hid (allP k t (T + 1 - 0) [] 0 = (rs, to, cd))) (w : World) :
    Calls Try.prog 57 #[.agg #[.int .u32 (W k.k0), .int .u32 (W k.k1), .int .u32 (W k.k2), .int .u32 (W k.k3), .int .u32 (W k.k4), .int .u32 (W k.k5), .int .u32 (W k.k6), .int .u32 (W k.k7)], .string (mkStr t), .int .i64 0] w fun e w' => ∃ A' c' segs, Hid (segs.map SegV.key = rs.map GetR.key) ∧ e = .returned (.tuple #[.slice A' segs.length c', .int .i64 (to : Nat), .int .i64 (cd : Nat)]) ∧ Sgs w' A' segs ∧ (∀ s ∈ segs, Bts w' s.A s.body) ∧ Below w.heap.size w w' := by
  subst hT
  refine (rall_any k (mkStr t) 0 w hl (by omega)).mono ?_
  rintro e w' ⟨A', c', segs, rs', to', cd', hA', hk, rfl, hS, hB, hb⟩
  have h2 := hA.out.symm.trans hA'.out
  simp only [Prod.mk.injEq] at h2
  obtain ⟨rfl, rfl, rfl⟩ := h2
  exact ⟨A', c', segs, hk, rfl, hS, hB, hb⟩
end Go.Proofs.Ytcdklmicbbcknaa
