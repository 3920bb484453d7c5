/-
  num.Put: what it comes to, by a walk of its text.
-/
import Derived.Test.YtcdklmicbbcknaaNp
import Derived.Test.YtcdklmicbbcknaaXo
import Derived.Test.YtcdklmicbbcknaaEs
namespace Go.Proofs.Ytcdklmicbbcknaa
open Go Go.RowKit
set_option maxRecDepth 20000 in
set_option maxHeartbeats 8000000 in
theorem put_any (n : Nat) (hn : n ≤ 18446744073709551615) (w : World) :
    Calls Try.prog 31 #[.int .u64 n] w fun e w' => ∃ A c r, Hid (r = putL n) ∧ e = .returned (.slice A r.length c) ∧ Own w' w.heap.size A c r ∧ Below w.heap.size w w' := by
  have hl18 := putL_18 n hn
  go_enter Try.func31, Try.ntmps31
  go_wp2_with fail
  go_loopw [0, 3] (fun v x wr => ∃ (q : Nat) (A : Option Addr) (c : Nat) (r : List UInt8), Hid (r ++ putL q = putL n) ∧ q ≤ n ∧ r.length ≤ 18 ∧ v = .int .u64 q ∧ x = .slice A r.length c ∧ Own wr w.heap.size A c r ∧ Below w.heap.size w wr)
    (fun v _ _ => (intOf v).toNat)
  case atStart => exact ⟨n, none, 0, [], rfl, Nat.le_refl _, by simp, rfl, rfl, Own.nil _ _, Below.refl _ _⟩
  case round =>
    obtain ⟨q, A, c, r, hr, hq, hr18, rfl, rfl, ho, hb⟩ := hrel
    have hq64 : (q : Int) ≤ 18446744073709551615 := by omega
    by_cases hlt : 250 ≤ q
    · obtain ⟨y, hy, hyy⟩ : ∃ y : UInt8, (q : Int) % 250 = (y.toNat : Int) ∧ Hid (y = UInt8.ofNat (q % 250)) := ⟨_, by rw [ofNat_small (by omega)]; omega, rfl⟩
      have hyb := UInt8.toNat_lt y
      have hB2 : Bts (wr.alloc (.cells #[.int .u8 250, .int .u8 (y.toNat : Int)] 5)) (some ⟨wr.heap.size, 0, none⟩) [250, y] := Bts.of_holds (t := 5) (Holds.new wr 5 _)
      have hsz := hb.size
      go_wp2_with (at_builtin; refine wpList_app (w := wr.alloc (.cells #[.int .u8 250, .int .u8 (y.toNat : Int)] 5)) rfl (.tmp 8) (.tmp 12) rfl (by rfl) (ho.alloc _) (by rfl) hB2 (by simp; omega) (by simp; omega) ?_; intro A2 c2 r2 w3 hr2 ho2 hg2 ha2)
      go_round
      case rel =>
        have e : r2 ++ putL (q / 250) = putL n := by
          rw [hr2.out, ← hr.out, putL_ge hlt, hyy.out]; simp
        have hl := congrArg List.length e
        rw [List.length_append] at hl
        refine ⟨q / 250, A2, c2, r2, e, by omega, by omega, by go_num, rfl, ho2, ?_⟩
        refine (hb.alloc hsz _).grown hg2 (by simp; omega) ?_
        intro k hk
        exact (ho.lt k hk).1
      case measure => simp [intOf]; omega
    · obtain ⟨y, hy, hyy⟩ : ∃ y : UInt8, (q : Int) = (y.toNat : Int) ∧ Hid (y = UInt8.ofNat q) := ⟨_, by rw [ofNat_small (by omega)], rfl⟩
      have hyb := UInt8.toNat_lt y
      have hq2 : q < 250 := by omega
      have hB2 : Bts (wr.alloc (.cells #[.int .u8 (y.toNat : Int)] 5)) (some ⟨wr.heap.size, 0, none⟩) [y] := Bts.of_holds (t := 5) (Holds.new wr 5 _)
      have hsz := hb.size
      have HR : Hid (r ++ [y] = putL n) := by rw [← hr.out, putL_lt hq2, hyy.out]; exact rfl
      clear hr hyy hq64
      obtain rfl : q = y.toNat := by omega
      clear hy
      go_wp2_with (at_builtin; refine wpList_app (w := wr.alloc (.cells #[.int .u8 (y.toNat : Int)] 5)) rfl (.tmp 14) (.tmp 17) rfl (by rfl) (ho.alloc _) (by rfl) hB2 (by simp; omega) (by simp; omega) ?_; intro A2 c2 r2 w3 hr2 ho2 hg2 ha2)
      go_ret
      refine ⟨A2, c2, r2, by rw [hr2.out, HR.out]; exact rfl, rfl, ho2, ?_⟩
      refine (hb.alloc hsz _).grown hg2 (by simp; omega) ?_
      intro k hk
      exact (ho.lt k hk).1
end Go.Proofs.Ytcdklmicbbcknaa
