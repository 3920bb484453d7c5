/-
  steamerlaw9.NumTexts answers true and leaves old memory as it was: by a walk of its text.
-/
import Derived.Test.YtcdklmicbbcknaaNt
namespace Go.Proofs.Ytcdklmicbbcknaa
open Go Go.RowKit
theorem get_put (b : List UInt8) (at_ v : Nat) (rest : List UInt8) (hd : b.drop at_ = putL v ++ rest) (hv : v ≤ 18446744073709551615) : getL b at_ = (v, at_ + (putL v).length, 0) := by
  unfold getL
  rw [read_put b at_ v rest hd hv]
  rfl
theorem nt_str (S : ByteArray) : ∃ l : List UInt8, S = mkStr l := ⟨S.data.toList, (mkStr_of S).symm⟩
section
variable {l m X : List UInt8} {P Q : Nat} (hX : Hid (X = (putL l.length ++ l) ++ (putL m.length ++ m))) (hP : Hid ((putL l.length).length = P)) (hQ : Hid ((putL m.length).length = Q)) (hl : l.length ≤ 300) (hm : m.length ≤ 300)
include hX hP hQ hl hm
theorem nt_len : X.length = P + l.length + Q + m.length ∧ P ≤ 18 ∧ Q ≤ 18 ∧ 1 ≤ P := by
  have h1 := putL_18 l.length (by omega)
  have h2 := putL_18 m.length (by omega)
  have h3 := putL_pos l.length
  have h4 := congrArg List.length hX.out
  simp only [List.length_append] at h4
  have := hP.out
  have := hQ.out
  omega
theorem nt_1 (g c : Nat) (w : World) (hc : X.length ≤ c) (hB : Bts w (some ⟨g, 0, none⟩) X) : Calls Try.prog 34 #[.slice (some ⟨g, 0, none⟩) X.length c, .int .i64 0, .int .i64 300] w fun e w' => e = .returned (.tuple #[.string (mkStr l), .int .i64 ((P : Int) + (l.length : Int)), .int .i64 0]) ∧ w = w' := by
  obtain ⟨h1, h2, h3, h4⟩ := nt_len hX hP hQ hl hm
  have hG : Hid (getL X 0 = (l.length, P, 0)) := Lib.hid (by rw [get_put X 0 l.length (l ++ (putL m.length ++ m)) (by rw [hX.out]; simp) (by omega), hP.out, Nat.zero_add])
  have h := gt_ok g 0 X c 0 300 w (by omega) (by omega) (by omega) hc hB l.length P hG (by omega) (by omega) (by omega)
  have e : (X.drop P).take l.length = l := by
    rw [hX.out, List.append_assoc, ← hP.out, List.drop_left, List.take_left]
  rw [e] at h
  exact h
theorem nt_2 (g c : Nat) (z : Int) (w : World) (hz : z = (P : Int) + (l.length : Int)) (hc : X.length ≤ c) (hB : Bts w (some ⟨g, 0, none⟩) X) : Calls Try.prog 34 #[.slice (some ⟨g, 0, none⟩) X.length c, .int .i64 z, .int .i64 300] w fun e w' => e = .returned (.tuple #[.string (mkStr m), .int .i64 (X.length : Int), .int .i64 0]) ∧ w = w' := by
  obtain ⟨h1, h2, h3, h4⟩ := nt_len hX hP hQ hl hm
  obtain rfl : z = ((P + l.length : Nat) : Int) := by omega
  have hd : X.drop (P + l.length) = putL m.length ++ m := by
    rw [hX.out, show P + l.length = (putL l.length ++ l).length by rw [List.length_append, hP.out], List.drop_left]
  have hG : Hid (getL X (P + l.length) = (m.length, P + l.length + Q, 0)) := Lib.hid (by rw [get_put X (P + l.length) m.length m hd (by omega), hQ.out])
  have h := gt_ok g 0 X c (P + l.length) 300 w (by omega) (by omega) (by omega) hc hB m.length (P + l.length + Q) hG (by omega) (by omega) (by omega)
  have e : (X.drop (P + l.length + Q)).take m.length = m := by
    rw [← List.drop_drop, hd, ← hQ.out, List.drop_left, List.take_length]
  rw [e, ← h1] at h
  exact h
theorem nt_3 (g c : Nat) (w : World) (hB : Bts w (some ⟨g, 0, none⟩) X) : Calls Try.prog 34 #[.slice (some ⟨g, 0, none⟩) X.length c, .int .i64 0, .int .i64 ((l.length : Int) - 1)] w fun e w' => e = .returned (.tuple #[.string ⟨#[]⟩, .int .i64 0, .int .i64 13]) ∧ w = w' := by
  obtain ⟨h1, h2, h3, h4⟩ := nt_len hX hP hQ hl hm
  have hG : Hid (getL X 0 = (l.length, P, 0)) := Lib.hid (by rw [get_put X 0 l.length (l ++ (putL m.length ++ m)) (by rw [hX.out]; simp) (by omega), hP.out, Nat.zero_add])
  exact gt_limit _ X c 0 ((l.length : Int) - 1) w (by omega) (by omega) hB l.length P hG (by omega) (by omega) (by omega)
end
theorem nt_rput (l : List UInt8) (P : Nat) (_hP : Hid ((putL l.length).length = P)) (hl : l.length ≤ 300) (w : World) : Calls Try.prog 35 #[.int .u64 (l.length : Int)] w fun e w' => ∃ s : ByteArray, e = .returned (.string s) ∧ s.size = P ∧ Below w.heap.size w w' := by
  refine (rput_any l.length (by omega) w).mono ?_
  rintro e w' ⟨rfl, hb⟩
  exact ⟨_, rfl, by rw [mkStr_size, _hP.out], hb⟩
theorem ret_boolN {b : Bool} (h : b = true) : Ending.returned (.bool b) = .returned (.bool true) := by rw [h]
set_option maxRecDepth 20000 in
set_option maxHeartbeats 8000000 in
theorem walk_NumTexts (S T : ByteArray) (w : World) (_hS : S.size ≤ maxLen) (_hT : T.size ≤ maxLen) :
    Calls Try.prog 10 #[.string S, .string T] w fun e w' => e = .returned (.bool true) ∧ Below w.heap.size w w' := by
  obtain ⟨l, rfl⟩ := nt_str S
  obtain ⟨m, rfl⟩ := nt_str T
  have hsl : (mkStr l).size = l.length := mkStr_size l
  have hsm : (mkStr m).size = m.length := mkStr_size m
  clear _hS _hT
  by_cases h300 : 300 < l.length ∨ 300 < m.length
  · have hcase : 300 < l.length ∨ (l.length ≤ 300 ∧ 300 < m.length) := by omega
    clear h300
    rcases hcase with h | ⟨h, h2⟩
    all_goals (
      go_enter Try.func10, Try.ntmps10
      go_wp2_with fail
      refine (told9 _).mono ?_
      rintro e w1 ⟨rfl, hb1⟩
      go_wp2
      go_ret
      exact ⟨rfl, hb1⟩)
  · have hl : l.length ≤ 300 := by omega
    have hm : m.length ≤ 300 := by omega
    clear h300
    obtain ⟨P, hP⟩ : ∃ P, Hid ((putL l.length).length = P) := ⟨_, rfl⟩
    obtain ⟨Q, hQ⟩ : ∃ Q, Hid ((putL m.length).length = Q) := ⟨_, rfl⟩
    go_enter Try.func10, Try.ntmps10
    go_wp2_with fail
    refine (text_any l (by omega) _).mono ?_
    rintro e w1 ⟨A1, c1, r1, hr1, rfl, ho1, hb1⟩
    go_wp2_with fail
    refine (text_any m (by omega) _).mono ?_
    rintro e w2 ⟨A2, c2, r2, hr2, rfl, ho2, hb2⟩
    have ho1' := ho1.below hb2
    have hB2 := ho2.bts
    have hs1 := hb1.size
    have hs2 := hb2.size
    have hlen1 : r1.length ≤ 400 := by rw [hr1.out, List.length_append]; have := putL_18 l.length (by omega); omega
    have hlen2 : r2.length ≤ 400 := by rw [hr2.out, List.length_append]; have := putL_18 m.length (by omega); omega
    have hb12 := hb1.trans (hb2.mono hs1)
    clear ho1 ho2 hb1 hb2
    go_wp2_with (at_builtin; refine wpList_app rfl (.tmp 25) (.tmp 27) rfl (by rfl) ho1' (by rfl) hB2 (by omega) (by omega) ?_; intro A3 c3 X w3 hX ho3 hg3 ha3)
    have hX2 : Hid (X = (putL l.length ++ l) ++ (putL m.length ++ m)) := by rw [hX.out, hr1.out, hr2.out]; exact rfl
    obtain ⟨n1, n2, n3, n4⟩ := nt_len hX2 hP hQ hl hm
    have hb3 := hb12.grown hg3 hb12.size (fun k hk => (ho1'.lt k hk).1)
    obtain ⟨g, rfl, _, _⟩ := ho3.addr (by omega)
    have hc3 := ho3.cap
    have hB3 := ho3.bts
    clear hX hr1 hr2 ho1' hB2 hg3 ha3 ho3 hb12 hs1 hs2 hlen1 hlen2
    refine (nt_1 hX2 hP hQ hl hm g c3 _ hc3 hB3).mono ?_
    rintro e w4 ⟨rfl, rfl⟩
    have HN := Lib.hid n1
    clear n1
    go_wp2_with fail
    refine (nt_2 hX2 hP hQ hl hm g c3 _ _ (by omega) hc3 hB3).mono ?_
    rintro e w4 ⟨rfl, rfl⟩
    go_wp2_with fail
    refine (nt_3 hX2 hP hQ hl hm g c3 _ hB3).mono ?_
    rintro e w4 ⟨rfl, rfl⟩
    clear hB3
    go_wp2_with fail
    refine (told9 _).mono ?_
    rintro e w4 ⟨rfl, hb4⟩
    have hb4' := hb3.trans (hb4.mono hb3.size)
    clear hb3 hb4
    go_wp2_with fail
    refine (nt_rput l P hP hl _).mono ?_
    rintro e w5 ⟨s5, rfl, hz5, hb5⟩
    have hb5' := hb4'.trans (hb5.mono hb4'.size)
    clear hb4' hb5
    go_wp2_with fail
    refine (nt_rput m Q hQ hm _).mono ?_
    rintro e w6 ⟨s6, rfl, hz6, hb6⟩
    have hfin := hb5'.trans (hb6.mono hb5'.size)
    clear hb5' hb6
    have n1 := HN.out
    have n1I : (X.length : Int) = (P : Int) + (l.length : Int) + (Q : Int) + (m.length : Int) := by omega
    clear n1
    go_wp2_with fail
    go_ret
    exact ⟨ret_boolN (by simp; omega), hfin⟩
end Go.Proofs.Ytcdklmicbbcknaa
