/-
  steamerlaw9.NumBack answers true and leaves old memory as it was: by a walk of its text.
-/
import Derived.Test.YtcdklmicbbcknaaNb
namespace Go.Proofs.Ytcdklmicbbcknaa
open Go Go.RowKit
theorem catL_len (l : List Nat) (hv : ∀ j, l.getD j 0 ≤ 18446744073709551615) (i : Nat) (hi : i ≤ l.length) : (catL (l.take i)).length ≤ 18 * i := by
  induction i with
  | zero => simp [catL]
  | succ i ih =>
    rw [catL_take l i (by omega), List.length_append]
    have := ih (by omega)
    have := putL_18 (l.getD i 0) (hv i)
    omega
theorem nb_put (n : Nat) (R : List UInt8) (hR : Hid (R = putL n)) (hn : n ≤ 18446744073709551615) (w : World) : Calls Try.prog 31 #[.int .u64 n] w fun e w' => ∃ A c, e = .returned (.slice A R.length c) ∧ Bts w' A R ∧ Below w.heap.size w w' := by
  obtain rfl := hR.out
  refine (put_any n hn w).mono ?_
  rintro e w' ⟨A, c, r, hr, rfl, ho, hb⟩
  obtain rfl := hr.out
  exact ⟨A, c, rfl, ho.bts, hb⟩
theorem nb_le {r La Z q : Nat} (h : r = La + Z) (hq : q < Z) : La + q ≤ r := by omega
theorem nb_sub {r La Z : Nat} (h : r = La + Z) : (r : Int) - (La : Int) = (Z : Int) := by omega
theorem nb_tl {r : List UInt8} {k : Nat} (h : k ≤ r.length) : (r.take k).length = k := by rw [List.length_take]; omega
theorem nb_getc (A : Option Addr) (T : List UInt8) (k c at_ : Nat) (w : World) (hk : Hid (T.length = k)) (hat : at_ ≤ k) (hl : k ≤ 1000000000) (hB : Bts w A T) (hG : Hid (getL T at_ = (0, at_, 3))) :
    Calls Try.prog 32 #[.slice A k c, .int .i64 at_] w fun e w' => e = .returned (.tuple #[.int .u64 0, .int .i64 at_, .int .i64 3]) ∧ w = w' := by
  obtain rfl := hk.out
  exact get_any A T c at_ w hat hl hB 0 at_ 3 hG
theorem ret_boolM {b : Bool} (h : b = true) : Ending.returned (.bool b) = .returned (.bool true) := by rw [h]
set_option maxRecDepth 20000 in
set_option maxHeartbeats 8000000 in
theorem walk_NumBack (A0 : Option Addr) (l : List Nat) (c0 : Nat) (A : Option Addr) (a : List UInt8) (c : Nat) (n : Int) (w : World) (hW : Wds w A0 l ∧ ∀ j, l.getD j 0 ≤ 18446744073709551615) (_hl0 : l.length ≤ c0) (_hc0 : c0 ≤ maxLen) (hB : Bts w A a) (_hl : a.length ≤ c) (_hc : c ≤ maxLen) (_hn : -9223372036854775808 ≤ n ∧ n < 9223372036854775808) :
    Calls Try.prog 8 #[.slice A0 l.length c0, .slice A a.length c, .int .i64 n] w fun e w' => e = .returned (.bool true) ∧ Below w.heap.size w w' := by
  obtain ⟨hW, hv⟩ := hW
  have HV := Lib.hid hv
  clear hv
  by_cases hbad : l.length < 1 ∨ 12 < l.length ∨ 9 < a.length
  · have hcase : l.length < 1 ∨ (1 ≤ l.length ∧ 12 < l.length) ∨ (1 ≤ l.length ∧ l.length ≤ 12 ∧ 9 < a.length) := by omega
    clear hbad
    rcases hcase with h | ⟨h, h2⟩ | ⟨h, h2, h3⟩
    all_goals (
      go_enter Try.func8, Try.ntmps8
      go_wp2_with fail
      refine (told9 _).mono ?_
      rintro e w1 ⟨rfl, hb1⟩
      go_wp2
      go_ret
      exact ⟨rfl, hb1⟩)
  · have hl1 : 1 ≤ l.length := by omega
    have hl2 : l.length ≤ 12 := by omega
    have ha9 : a.length ≤ 9 := by omega
    clear hbad
    have ho0 := Own.made w w.heap.size (Nat.le_refl _) [] (by simp)
    have hB0 := hB.alloc (.cells (bvals []).toArray 5)
    have hb0 : Below w.heap.size w (w.alloc (.cells (bvals []).toArray 5)) := (Below.refl _ _).alloc (Nat.le_refl _) _
    go_enter Try.func8, Try.ntmps8
    go_wp2_with (at_builtin; refine wpList_app (w := w.alloc (.cells (bvals []).toArray 5)) rfl (.tmp 33) (.tmp 34) rfl (by rfl) ho0 (by rfl) hB0 (by simp; omega) (by simp) ?_; intro A1 c1 r1 w1 hr1 ho1 hg1 ha1)
    have hr1' : r1 = a := hr1.out
    have hb1 := hb0.grown hg1 (by simp) (fun k hk => by have e := Option.some.inj hk; subst e; exact Nat.le_refl _)
    clear ho0 hB0 hb0 hg1 ha1 hr1
    go_loopw [7, 8, 9] (fun v z x wr => ∃ (i : Nat) (A2 : Option Addr) (c2 : Nat) (r : List UInt8) (La : Nat), Hid (r = a ++ catL (l.take i)) ∧ i ≤ l.length ∧ r.length ≤ 9 + 18 * i ∧ v = .slice A2 r.length c2 ∧ z = .int .i64 La ∧ x = .int .i64 i ∧ Own wr w.heap.size A2 c2 r ∧ Below w.heap.size w wr ∧ Hid (i = 0 ∨ La = (a ++ catL (l.take (i - 1))).length)) (fun _ _ x _ => l.length - (intOf x).toNat)
    case atStart => exact ⟨0, A1, c1, r1, 0, Lib.hid (by rw [hr1']; simp [catL]), by omega, by rw [hr1']; omega, rfl, rfl, rfl, ho1, hb1, Or.inl rfl⟩
    case round =>
      clear ho1 hb1 hr1'
      obtain ⟨i, A2, c2, r, La, hr, hi, hrl, rfl, rfl, rfl, ho, hb, hLa⟩ := hrel
      by_cases hlt : i < l.length
      · have hWr := hW.below hb rfl
        obtain ⟨b0, o0, rfl, hbs0, hcs0⟩ := hWr (by omega)
        have hci := hcs0 i hlt
        obtain ⟨V, hV, hVV⟩ : ∃ V : Nat, Hid (V = l.getD i 0) ∧ V ≤ 18446744073709551615 := ⟨_, rfl, HV.out i⟩
        rw [← hV.out] at hci
        obtain ⟨R, hR⟩ : ∃ R, Hid (R = putL V) := ⟨_, rfl⟩
        have hR18 : R.length ≤ 18 := by rw [hR.out]; exact putL_18 V hVV
        have hVI : (V : Int) ≤ 18446744073709551615 := by omega
        clear hcs0 hWr
        go_wp2_with fail
        refine (nb_put V R hR hVV _).mono ?_
        rintro e w3 ⟨A3, c3, rfl, hB3, hb3⟩
        have ho3 := ho.below hb3
        have hbb := hb.trans (hb3.mono hb.size)
        clear ho hb hb3
        go_wp2_with (at_builtin; refine wpList_app rfl (.tmp 44) (.tmp 49) rfl (by rfl) ho3 (by rfl) hB3 (by omega) hbb.size ?_; intro A4 c4 r4 w4 hr4 ho4 hg4 ha4)
        go_round
        case rel =>
          refine ⟨i + 1, A4, c4, r4, r.length, ?_, by omega, by rw [hr4.out, List.length_append]; omega, rfl, rfl, by go_num, ho4, hbb.grown hg4 hbb.size (fun k hk => (ho3.lt k hk).1), Or.inr (by rw [hr.out]; rfl)⟩
          rw [hr4.out, catL_take l i hlt, hr.out, hR.out, hV.out, List.append_assoc]; exact rfl
        case measure => simp [intOf]; omega
      · obtain rfl : i = l.length := by omega
        obtain ⟨N, hN⟩ : ∃ N, N + 1 = l.length := ⟨l.length - 1, by omega⟩
        have hX : Hid (r = a ++ catL l) := by rw [hr.out, List.take_length]; exact rfl
        have hLe : La = (a ++ catL (l.take N)).length := by
          rcases hLa.out with h | h
          · omega
          · rw [h, ← hN]; rfl
        obtain ⟨V, hV⟩ : ∃ V, Hid (V = l.getD N 0) := ⟨_, rfl⟩
        obtain ⟨Z, hZ⟩ : ∃ Z, Hid ((putL V).length = Z) := ⟨_, rfl⟩
        have hZ1 : 1 ≤ Z := by rw [← hZ.out]; exact putL_pos V
        have hZ18 : Z ≤ 18 := by rw [← hZ.out]; exact putL_18 V (by rw [hV.out]; exact HV.out N)
        have hrl2 : r.length = La + Z := by
          rw [hX.out, catL_split l N (by omega), List.drop_eq_nil_of_le (by omega), hLe, ← hZ.out, hV.out]
          simp only [catL, List.length_append, List.length_nil]; omega
        have HL := Lib.hid (And.intro hN hLe)
        obtain ⟨g, rfl, hg1, hg2⟩ := ho.addr (by omega)
        have hrb : r.length ≤ 300 := by omega
        have hLr : La < r.length := by omega
        have HRL := Lib.hid hrl2
        clear hrl2 hrl
        have hB3 := ho.bts
        have hcap := ho.cap
        have hHO := Lib.hid ho
        clear hLe hr hLa hN ho
        rw [show ((l.length : Nat) : Int) = (l.length : Int) from rfl]
        go_wp2_with fail
        go_loopw [10, 11] (fun v x wq => ∃ j : Nat, j ≤ l.length ∧ v = .int .i64 ((a ++ catL (l.take j)).length : Int) ∧ x = .int .i64 j ∧ wq = wr) (fun _ x _ => l.length - (intOf x).toNat)
        case atStart => exact ⟨0, by omega, by simp [catL], rfl, rfl⟩
        case round =>
          obtain ⟨j, hj, rfl, rfl, rfl⟩ := hrel
          by_cases hjl : j < l.length
          · have hG : Hid (getL r (a ++ catL (l.take j)).length = (l.getD j 0, (a ++ catL (l.take (j + 1))).length, 0)) := Lib.hid (by rw [hX.out]; exact nb_get a l j hjl (HV.out j))
            obtain ⟨p1, hp1⟩ : ∃ p1, Hid (p1 = (a ++ catL (l.take j)).length) := ⟨_, rfl⟩
            obtain ⟨p2, hp2⟩ : ∃ p2, Hid (p2 = (a ++ catL (l.take (j + 1))).length) := ⟨_, rfl⟩
            have hp12 : p1 < p2 := by
              have := putL_pos (l.getD j 0)
              rw [hp1.out, hp2.out, catL_take l j hjl]
              simp only [List.length_append]; omega
            have hp2r : p2 ≤ r.length := by
              rw [hp2.out, hX.out, catL_split l j hjl, catL_take l j hjl]
              simp only [List.length_append]; omega
            rw [← hp1.out] at hG ⊢
            rw [← hp2.out] at hG
            obtain ⟨b0, o0, rfl, hbs0, hcs0⟩ := (hW.below hb rfl) (by omega)
            have hci := hcs0 j hjl
            obtain ⟨V2, hV2, hVV⟩ : ∃ V2 : Nat, Hid (V2 = l.getD j 0) ∧ V2 ≤ 18446744073709551615 := ⟨_, rfl, HV.out j⟩
            rw [← hV2.out] at hci hG
            clear hcs0
            go_wp2_with fail
            refine (get_any _ r c2 p1 _ (by omega) (by omega) hB3 V2 p2 0 hG).mono ?_
            rintro e w3 ⟨rfl, rfl⟩
            have hpI : ¬ ((p2 : Int) ≤ (p1 : Int)) := by omega
            have hpJ : ¬ ((r.length : Int) < (p2 : Int)) := by omega
            go_wp2_with fail
            go_round
            case rel => exact ⟨j + 1, by omega, by rw [hp2.out], by go_num, trivial⟩
            case measure => simp [intOf]; omega
          · obtain rfl : j = l.length := by omega
            rw [show (a ++ catL (l.take l.length)).length = r.length by rw [List.take_length, hX.out]]
            obtain ⟨q, hq, hq2⟩ := utmod n Z hZ1
            have hq18 : q ≤ 18 := Nat.le_trans (Nat.le_of_lt hq) hZ18
            have hG : Hid (getL (r.take (La + q)) La = (0, La, 3)) := by
              obtain ⟨hN, hLe⟩ := HL.out
              rw [hX.out, hLe]
              exact Lib.hid (nb_cut a l N q hN (HV.out N) (by rw [← hV.out, hZ.out]; exact hq))
            have hle := nb_le HRL.out hq
            have hBt := (hHO.out.take (La + q) hle).bts
            have HTl := Lib.hid (nb_tl hle)
            have HBt := Lib.hid hBt
            have hsub := nb_sub HRL.out
            have hqc : La + q ≤ c2 := Nat.le_trans hle hcap
            clear hBt
            go_wp2_with fail
            refine (nb_getc _ (r.take (La + q)) (La + q) c2 La _ HTl (Nat.le_add_right _ _) (Nat.le_trans hle (Nat.le_trans hrb (by decide))) HBt.out hG).mono ?_
            rintro e w3 ⟨rfl, rfl⟩
            go_wp2_with fail
            refine (told9 _).mono ?_
            rintro e w4 ⟨rfl, hb4⟩
            have hfin := hb.trans (hb4.mono hb.size)
            clear hb hb4
            go_wp2_with fail
            go_ret
            exact ⟨ret_boolM (by simp), hfin⟩
end Go.Proofs.Ytcdklmicbbcknaa
