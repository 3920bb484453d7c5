/-
  the reference's Xor: what it comes to, by a walk of its text.
-/
import Derived.Test.YtcdklmicbbcknaaRs
import Derived.OwnWalk
import Derived.Deep.RegionHeld3
namespace Go.Proofs.Ytcdklmicbbcknaa
open Go Go.RowKit
theorem bvals_zero (n : Nat) : bvals (List.replicate n 0) = List.replicate n (.int .u8 0) := by simp [bvals]
theorem wpList_mk {ops : Array Oper} {rest : List Oper} {o : Oper} {a : Act} {Q : Exit → Act → World → Prop} {w : World} {base n : Nat} (hgd : o.guard = none) (l c : Operand) (ho : o.op = Op.makeSlice 24 l c) (hl : a.eval l = .int .i64 n) (hc : a.eval c = .int .i64 n) (hn : n ≤ 140737488355328) (hb : base ≤ w.heap.size)
    (hK : ∀ g w', Own w' base (some ⟨g, 0, none⟩) n (List.replicate n 0) → Hid (g = w.heap.size) → w.grownBy w' none → wpList Try.prog ops Q rest (a.put o.dst (.slice (some ⟨g, 0, none⟩) n n)) w') : wpList Try.prog ops Q (o :: rest) a w := by
  obtain ⟨i, hi, hz, hs, hby⟩ := info_parts info5b
  refine wpList_make_full w hgd l c 24 ho base 5 i (.int .u8 0) 1 Try.underlying24 hi hz hs .i64 .i64 n n n hl hc rfl rfl (by rw [hby]; omega) (by simp only [maxLen]; omega) hb ?_
  intro w' h1 h2
  refine hK _ w' ?_ rfl h2
  unfold Own
  rw [List.length_replicate, bvals_zero]
  have e : (madeCells (Value.cells (.int .u8 0)) (n * 1)).toList = List.replicate n (.int .u8 0) := by rw [Nat.mul_one]; exact toList_madeCells_one (.int .u8 0) n
  rw [e] at h1
  exact h1
def rzAt (r : List UInt8) (i : Nat) : List UInt8 := r.take i ++ List.replicate (r.length - i) 0
theorem rzAt_len (r : List UInt8) (i : Nat) (hi : i ≤ r.length) : (rzAt r i).length = r.length := by
  rw [rzAt, List.length_append, List.length_take, List.length_replicate]; omega
theorem rzAt_set (r : List UInt8) (i : Nat) (hi : i < r.length) : (rzAt r i).set i (r.getD i 0) = rzAt r (i + 1) := by
  have e : (r.take i).length = i := by rw [List.length_take]; omega
  obtain ⟨d, hd⟩ : ∃ d, r.length - i = d + 1 := ⟨r.length - i - 1, by omega⟩
  have hd2 : r.length - (i + 1) = d := by omega
  rw [rzAt, rzAt, List.set_append_right _ _ (by omega), e, Nat.sub_self, hd, hd2, List.replicate_succ, List.set_cons_zero, List.take_succ_eq_append_getElem hi, List.append_assoc]
  congr 2
  rw [List.getD_eq_getElem?_getD, List.getElem?_eq_getElem hi]; rfl
theorem rzAt_zero (r : List UInt8) : rzAt r 0 = List.replicate r.length 0 := by simp [rzAt]
theorem rzAt_all (r : List UInt8) : rzAt r r.length = r := by simp [rzAt]
theorem xorL_get (s b : List UInt8) (h : s.length = b.length) (i : Nat) (hi : i < s.length) : (xorL s b).getD i 0 = b.getD i 0 ^^^ s.getD i 0 := by
  have h1 : i < (xorL s b).length := by rw [xorL_len s b h]; exact hi
  have h2 : i < b.length := by omega
  rw [List.getD_eq_getElem?_getD, List.getD_eq_getElem?_getD, List.getD_eq_getElem?_getD, List.getElem?_eq_getElem h1, List.getElem?_eq_getElem hi, List.getElem?_eq_getElem h2]
  simp only [Option.getD_some, xorL, List.getElem_zipWith]
  exact UInt8.xor_comm _ _
theorem rx_idx (l : List UInt8) (i : Nat) (hi : i < l.length) (w : World) : (Instr.index 9 (.string (mkStr l)) (.int .i64 (i : Int))).run Try.prog w = .ok (.int .u8 ((l.getD i 0).toNat : Int)) w := by
  rw [run_index_string (h := Try.underlying9)]
  have h : 0 ≤ (i : Int) ∧ (i : Int) < (mkStr l).size := by rw [mkStr_size]; omega
  rw [dif_pos h]
  have e : (mkStr l)[((i : Int)).toNat]'(by omega) = l.getD i 0 := by
    have := getD_bytes (mkStr l) i (by rw [mkStr_size]; exact hi)
    rw [mkStr_data] at this
    rw [this]; rfl
  rw [e]
attribute [local go_sem] W_add W_sub bits_xor_W bits_or_W bits_xor_B
set_option maxRecDepth 20000 in
set_option maxHeartbeats 4000000 in
theorem rxor_any (k : K8) (p : Int) (b : List UInt8) (w : World) (hl : b.length ≤ 100000) :
    Calls Try.prog 49 #[.agg k.vals.toArray, .int .i64 p, .string (mkStr b)] w fun e w' => e = .returned (.string (mkStr (xorL (streamL k p b.length) b))) ∧ Below w.heap.size w w' := by
  have hb0 : Below w.heap.size w (w.alloc (.cells k.vals.toArray 32)) := (Below.refl _ _).alloc (Nat.le_refl _) _
  have hsz : (mkStr b).size = b.length := mkStr_size b
  unfold K8.vals at *
  go_enter Try.func49, Try.ntmps49
  go_wp2_with fail
  refine (rstream_any k p b.length _ hl).mono ?_
  rintro e w1 ⟨rfl, hb1⟩
  have hsr : (mkStr (streamL k p b.length)).size = b.length := by rw [mkStr_size, streamL_len]
  have hb2 := hb0.trans (hb1.mono (by simp))
  have hz1 := hb2.size
  go_wp2_with (at_make; go_loud (refine wpList_mk (base := w.heap.size) rfl (.tmp 16) (.tmp 16) rfl (by rfl) (by rfl) (by omega) hz1 ?_); intro g w2 ho hg hgr)
  clear hb0 hb1
  have hb3 := hb2.grown hgr hz1 (by intro k hk; cases hk)
  have hSl : (streamL k p b.length).length = b.length := streamL_len _ _ _
  generalize hS : streamL k p b.length = S at *
  have HS := Lib.hid hS
  clear hS
  have HSL := Lib.hid hSl
  have hxl : (xorL S b).length = b.length := by rw [xorL_len S b hSl, hSl]
  have HXL := Lib.hid hxl
  clear hSl hxl
  go_loopw [9] (fun v wr => ∃ i : Nat, i ≤ b.length ∧ v = .int .i64 i ∧ Own wr w.heap.size (some ⟨g, 0, none⟩) b.length (rzAt (xorL S b) i) ∧ Below w.heap.size w wr) (fun v _ => b.length - (intOf v).toNat)
  case atStart => exact ⟨0, by omega, rfl, by rw [rzAt_zero, HXL.out]; exact ho, hb3⟩
  case round =>
    clear ho hgr hb2 hb3 hz1
    obtain ⟨i, hi, rfl, ho, hb⟩ := hrel
    have hlen := rzAt_len (xorL S b) i (by rw [HXL.out]; exact hi)
    rw [HXL.out] at hlen
    by_cases hlt : i < b.length
    · have hi1 := rx_idx b i hlt
      have hi2 := rx_idx S i (by rw [HSL.out]; exact hlt)
      have hc1 := ho.cell i (by omega)
      have hf1 := ho.free i
      have hset := ho.set i (b.getD i 0 ^^^ S.getD i 0)
      rw [← xorL_get S b HSL.out i (by rw [HSL.out]; exact hlt), rzAt_set _ i (by rw [HXL.out]; exact hlt), xorL_get S b HSL.out i (by rw [HSL.out]; exact hlt)] at hset
      have HO := Lib.hid hlen
      have hg0 := (ho.lt g rfl).1
      clear hlen
      generalize ((rzAt (xorL S b) i).getD i 0) = z at *
      generalize S.getD i 0 = y at *
      generalize b.getD i 0 = x at *
      go_wp2_with fail
      go_region
      go_wp2
      go_round
      case rel => exact ⟨i + 1, by omega, by go_num, hset.drew, (hb.setCell (by show w.heap.size ≤ g; omega) _).drew⟩
      case measure => simp [intOf]; omega
    · obtain rfl : i = b.length := by omega
      have hr := rzAt_all (xorL S b)
      rw [HXL.out] at hr
      rw [hr] at ho
      have hrun := run_str ho.bts b.length
      rw [HXL.out] at hrun
      clear hlen
      go_wp2_with fail
      go_ret
      exact ⟨by rw [HS.out]; rfl, hb⟩
end Go.Proofs.Ytcdklmicbbcknaa
