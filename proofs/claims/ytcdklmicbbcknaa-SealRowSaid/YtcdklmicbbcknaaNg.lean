/-
  num.Get, num.Text, num.GetText, the reference's Put: what they come to, by walks of their text.
-/
import Derived.Test.YtcdklmicbbcknaaNr
import Derived.Test.YtcdklmicbbcknaaNw
import Derived.Test.YtcdklmicbbcknaaAp
namespace Go.Proofs.Ytcdklmicbbcknaa
open Go Go.RowKit
def getL (b : List UInt8) (at_ : Nat) : Nat × Nat × Nat := ((readL b at_).1, (readL b at_).2.1, if (readL b at_).2.2 = 5 then 3 else (readL b at_).2.2)
set_option maxHeartbeats 4000000 in
theorem read_far (A : Option Addr) (n c : Nat) (at_ : Int) (w : World) (hat : n < at_) (_ha2 : at_ < 9223372036854775808) :
    Calls Try.prog 63 #[.slice A n c, .int .i64 at_] w fun e w' => e = .returned (.tuple #[.int .u64 0, .int .i64 at_, .int .i64 2]) ∧ w = w' := by
  go_enter Try.func63, Try.ntmps63
  go_wp2_with fail
  refine wp_scope_back 0 (fun _ _ => False) (fun _ _ => 0) rfl ?_ (fun _ _ hF => hF.elim)
  intro hp
  clear hp
  go_wp2_with fail
  simp only [Exit.jump]
  exact bodyPost_ret (v := .tuple #[.int .u64 0, .int .i64 at_, .int .i64 2]) (by simp [results, Try.results63, go_sem]) rfl ⟨rfl, rfl⟩
set_option maxHeartbeats 4000000 in
theorem get_far (A : Option Addr) (n c : Nat) (at_ : Int) (w : World) (hat : n < at_) (ha2 : at_ < 9223372036854775808) :
    Calls Try.prog 32 #[.slice A n c, .int .i64 at_] w fun e w' => e = .returned (.tuple #[.int .u64 0, .int .i64 at_, .int .i64 2]) ∧ w = w' := by
  go_enter Try.func32, Try.ntmps32
  go_wp2_with fail
  refine (read_far A n c at_ _ hat ha2).mono ?_
  rintro e w' ⟨rfl, rfl⟩
  go_wp2
  refine bodyPost_ret (v := .tuple #[.int .u64 0, .int .i64 at_, .int .i64 2]) (by simp [results, Try.results32, go_sem]) rfl ⟨rfl, rfl⟩
set_option maxHeartbeats 4000000 in
theorem get_any (A : Option Addr) (l : List UInt8) (c at_ : Nat) (w : World) (hat : at_ ≤ l.length) (hl : l.length ≤ 1000000000) (hB : Bts w A l) (r t cd : Nat) (hG : Hid (getL l at_ = (r, t, cd))) :
    Calls Try.prog 32 #[.slice A l.length c, .int .i64 at_] w fun e w' => e = .returned (.tuple #[.int .u64 r, .int .i64 t, .int .i64 cd]) ∧ w = w' := by
  go_enter Try.func32, Try.ntmps32
  go_wp2_with fail
  refine (read_any A l c at_ _ hat hl hB).mono ?_
  rintro e w' ⟨rfl, rfl⟩
  have h := hG.out
  unfold getL at h
  unfold retR
  generalize readL l at_ = R at *
  obtain ⟨r0, t0, c0⟩ := R
  clear hG hB
  simp only [Prod.mk.injEq] at h
  obtain ⟨rfl, rfl, h3⟩ := h
  dsimp only
  by_cases h5 : c0 = 5
  · subst h5
    rw [if_pos rfl] at h3
    subst h3
    go_wp2
    refine bodyPost_ret (v := .tuple #[.int .u64 r0, .int .i64 t0, .int .i64 3]) (by simp [results, Try.results32, go_sem]) rfl ⟨rfl, rfl⟩
  · rw [if_neg h5] at h3
    subst h3
    have h5I : ¬ ((c0 : Int) = 5) := by omega
    go_wp2
    refine bodyPost_ret (v := .tuple #[.int .u64 r0, .int .i64 t0, .int .i64 c0]) (by simp [results, Try.results32, go_sem]) rfl ⟨rfl, rfl⟩
set_option maxHeartbeats 4000000 in
theorem text_any (l : List UInt8) (hl : l.length ≤ 1000000) (w : World) :
    Calls Try.prog 33 #[.string (mkStr l)] w fun e w' => ∃ A c r, Hid (r = putL l.length ++ l) ∧ e = .returned (.slice A r.length c) ∧ Own w' w.heap.size A c r ∧ Below w.heap.size w w' := by
  have hsz : (mkStr l).size = l.length := mkStr_size l
  have h18 := putL_18 l.length (by omega)
  go_enter Try.func33, Try.ntmps33
  go_wp2_with fail
  refine (put_any l.length (by omega) _).mono ?_
  rintro e w1 ⟨A, c, r, hr, rfl, ho, hb⟩
  have hrl : r.length ≤ 18 := by rw [hr.out]; exact h18
  have hs1 := hb.size
  go_wp2_with (at_builtin; refine wpList_sapp rfl (.tmp 6) (.tmp 7) rfl (by rfl) ho (by rfl) (by omega) hs1 ?_; intro A2 c2 r2 w2 hr2 ho2 hg2)
  go_ret
  refine ⟨A2, c2, r2, by rw [hr2.out, hr.out]; exact rfl, rfl, ho2, ?_⟩
  exact hb.grown hg2 hs1 (fun k hk => (ho.lt k hk).1)
theorem Bts.part {w : World} {b o : Nat} {l : List UInt8} (h : Bts w (some ⟨b, o, none⟩) l) (hl : 0 < l.length) (t n : Nat) (ht : t + n ≤ l.length) : Bts w (some ⟨b, o + t, none⟩) ((l.drop t).take n) := fun _ => by
  obtain ⟨b', o', e, hb, hc⟩ := h hl
  injection e with e
  injection e with e1 e2
  subst e1 e2
  refine ⟨b, o + t, rfl, hb, fun j hj => ?_⟩
  rw [List.length_take, List.length_drop] at hj
  have := hc (t + j) (by omega)
  rw [Nat.add_assoc, this]
  congr 3
  rw [List.getD_eq_getElem?_getD, List.getD_eq_getElem?_getD, List.getElem?_take, if_pos (by omega), List.getElem?_drop]
set_option maxRecDepth 20000 in
set_option maxHeartbeats 4000000 in
theorem gt_limit (A : Option Addr) (l : List UInt8) (c at_ : Nat) (most : Int) (w : World) (hat : at_ ≤ l.length) (hl : l.length ≤ 1000000000) (hB : Bts w A l) (n t : Nat) (hG : Hid (getL l at_ = (n, t, 0))) (hm : most < n) (hm2 : most < 1000000000) (hm3 : -10 ≤ most) :
    Calls Try.prog 34 #[.slice A l.length c, .int .i64 at_, .int .i64 most] w fun e w' => e = .returned (.tuple #[.string ⟨#[]⟩, .int .i64 at_, .int .i64 13]) ∧ w = w' := by
  rcases (show most < 0 ∨ 0 ≤ most by omega) with h0 | h0
  all_goals (
    go_enter Try.func34, Try.ntmps34
    go_wp2_with fail
    refine (get_any A l c at_ _ hat hl hB n t 0 hG).mono ?_
    rintro e w' ⟨rfl, rfl⟩
    clear hB
    go_wp2
    refine bodyPost_ret (v := .tuple #[.string ⟨#[]⟩, .int .i64 at_, .int .i64 13]) (by simp [results, Try.results34, go_sem]) rfl ⟨rfl, rfl⟩)
set_option maxRecDepth 20000 in
set_option maxHeartbeats 4000000 in
theorem gt_bytes (A : Option Addr) (l : List UInt8) (c at_ : Nat) (most : Int) (w : World) (hat : at_ ≤ l.length) (hl : l.length ≤ 1000000000) (hB : Bts w A l) (n t : Nat) (hG : Hid (getL l at_ = (n, t, 0))) (hm : n ≤ most) (hm2 : most < 1000000000) (ht : t ≤ l.length) (hn : l.length - t < n) :
    Calls Try.prog 34 #[.slice A l.length c, .int .i64 at_, .int .i64 most] w fun e w' => e = .returned (.tuple #[.string ⟨#[]⟩, .int .i64 at_, .int .i64 3]) ∧ w = w' := by
  go_enter Try.func34, Try.ntmps34
  go_wp2_with fail
  refine (get_any A l c at_ _ hat hl hB n t 0 hG).mono ?_
  rintro e w' ⟨rfl, rfl⟩
  clear hB
  go_wp2
  refine bodyPost_ret (v := .tuple #[.string ⟨#[]⟩, .int .i64 at_, .int .i64 3]) (by simp [results, Try.results34, go_sem]) rfl ⟨rfl, rfl⟩
set_option maxRecDepth 20000 in
set_option maxHeartbeats 4000000 in
theorem gt_ok (b o : Nat) (l : List UInt8) (c at_ : Nat) (most : Int) (w : World) (hat : at_ ≤ l.length) (hl : l.length ≤ 1000000000) (h0 : 0 < l.length) (hc : l.length ≤ c) (hB : Bts w (some ⟨b, o, none⟩) l) (n t : Nat) (hG : Hid (getL l at_ = (n, t, 0))) (hm : n ≤ most) (hm2 : most < 1000000000) (ht : t + n ≤ l.length) :
    Calls Try.prog 34 #[.slice (some ⟨b, o, none⟩) l.length c, .int .i64 at_, .int .i64 most] w fun e w' => e = .returned (.tuple #[.string (mkStr ((l.drop t).take n)), .int .i64 ((t + n : Nat) : Int), .int .i64 0]) ∧ w = w' := by
  have hp := hB.part h0 t n ht
  have hpl : ((l.drop t).take n).length = n := by rw [List.length_take, List.length_drop]; omega
  have hst : ∀ c, (convert 24 9 (.slice (some ⟨b, o + t, none⟩) n c)).run Try.prog w = .ok (.string (mkStr ((l.drop t).take n))) w := fun c => by
    have h := run_str hp c
    rw [hpl] at h; exact h
  clear hp
  generalize (l.drop t).take n = x at *
  by_cases hct : c = t
  · subst hct
    obtain rfl : n = 0 := by omega
    obtain rfl : x = [] := List.eq_nil_of_length_eq_zero hpl
    have hst0 : (convert 24 9 (.slice (some ⟨b, o, none⟩) 0 0)).run Try.prog w = .ok (.string (mkStr [])) w := run_str (l := []) (Bts.nil _ _) 0
    clear hst
    go_enter Try.func34, Try.ntmps34
    go_wp2_with fail
    refine (get_any (some ⟨b, o, none⟩) l c at_ _ hat hl hB 0 c 0 hG).mono ?_
    rintro e w' ⟨rfl, rfl⟩
    clear hB
    go_wp2
    exact bodyPost_ret (v := .tuple #[.string (mkStr []), .int .i64 ((c + 0 : Nat) : Int), .int .i64 0]) (by simp [results, Try.results34, go_sem]) rfl ⟨rfl, rfl⟩
  · go_enter Try.func34, Try.ntmps34
    go_wp2_with fail
    refine (get_any (some ⟨b, o, none⟩) l c at_ _ hat hl hB n t 0 hG).mono ?_
    rintro e w' ⟨rfl, rfl⟩
    clear hB
    go_wp2
    exact bodyPost_ret (v := .tuple #[.string (mkStr x), .int .i64 ((t + n : Nat) : Int), .int .i64 0]) (by simp [results, Try.results34, go_sem]) rfl ⟨rfl, rfl⟩
end Go.Proofs.Ytcdklmicbbcknaa
