/-
  lane.Stream: what it comes to, by a walk of its text.
-/
import Derived.Test.YtcdklmicbbcknaaPs
import Derived.Test.YtcdklmicbbcknaaBy
import Derived.Test.YtcdklmicbbcknaaLm
import Derived.Outline
namespace Go.Proofs.Ytcdklmicbbcknaa
open Go Go.RowKit
theorem info22b : (Try.prog.info? 22).map (fun i => i.size) = some 1 := by kernel_rfl
theorem run_index8 (w : World) (cs : Array Value) (i : Int) (h : 0 ≤ i ∧ i < 8) (h2 : i.toNat < cs.size) : (Instr.index 28 (.agg cs) (.int .i64 i)).run Try.prog w = .ok (cs.getD i.toNat undef) w := by
  obtain ⟨inf, hi, hs⟩ : ∃ inf, Try.prog.info? 22 = some inf ∧ inf.size = 1 := by
    cases hx : Try.prog.info? 22 with
    | none => have := info22b; rw [hx] at this; cases this
    | some j => exact ⟨j, rfl, by have := info22b; rw [hx] at this; simpa using this⟩
  simp [Instr.index, asIntOf, run_underlying Try.underlying28, h, sizeOf, typeInfo, hi, hs, part, isAgg, run_underlying Try.underlying22, h2, Array.getD]
attribute [local go_sem] W_add W_sub bits_xor_W bits_or_W run_index8
def StP (w0 : World) (k : K8) (A : Option Addr) (c : Nat) (l : List UInt8) (w : World) : Prop := Below w0.heap.size w0 w ∧ Holds w w0.heap.size 28 k.vals ∧ Own w (w0.heap.size + 1) A c l
theorem StP.below {w0 : World} {k : K8} {A : Option Addr} {c : Nat} {l : List UInt8} {w w' : World} (h : StP w0 k A c l w) (hb : Below w.heap.size w w') : StP w0 k A c l w' :=
  ⟨h.1.trans (hb.mono h.1.size), h.2.1.below hb h.2.1.lt, h.2.2.below hb⟩
theorem StP.alloc {w0 : World} {k : K8} {A : Option Addr} {c : Nat} {l : List UInt8} {w : World} (h : StP w0 k A c l w) (o : Obj) : StP w0 k A c l (w.alloc o) := h.below ((Below.refl _ _).alloc (Nat.le_refl _) o)
theorem StP.grown {w0 : World} {k : K8} {A A' : Option Addr} {c c' : Nat} {l r : List UInt8} {w w' : World} (h : StP w0 k A c l w) (hg : w.grownBy w' (blk A)) (ho : Own w' (w0.heap.size + 1) A' c' r) : StP w0 k A' c' r w' :=
  ⟨h.1.grown hg h.1.size (fun b hb => by have := (h.2.2.lt b hb).1; omega), h.2.1.grown hg (fun e => by have := (h.2.2.lt _ e.symm).1; omega), ho⟩
theorem bts4 (w : World) (z : BitVec 32) : Bts (w.alloc (.cells #[.int .u8 (W z % 256), .int .u8 (W z / 256 % 256), .int .u8 (W z / 65536 % 256), .int .u8 (W z / 16777216 % 256)] 5)) (some ⟨w.heap.size, 0, none⟩) (le4 z) :=
  Bts.of_holds (t := 5) (by rw [le4_vals]; exact Holds.new w 5 _)
theorem wpList_st {ops : Array Oper} {rest : List Oper} {o : Oper} {a : Act} {Q : Exit → Act → World → Prop} {w0 w : World} {k : K8} {A : Option Addr} {c c2 : Nat} {l R xs : List UInt8} {z : BitVec 32} (hgd : o.guard = none) (s x : Operand)
    (ho : o.op = .call { callee := .builtin .append, args := #[s, x], argTypes := #[24, 24] }) (hs : a.eval s = .slice A l.length c) (h : StP w0 k A c l w) (hr : Hid (l = R ++ xs)) (hR : R.length ≤ 100000) (hxs : xs.length ≤ 28)
    (hx : a.eval x = .slice (some ⟨w.heap.size, 0, none⟩) 4 c2)
    (hK : ∀ A' c' r w', StP w0 k A' c' r w' → Hid (r = R ++ (xs ++ le4 z)) → (w'.cell? ⟨w0.heap.size, 0, none⟩ = some (.int .u32 (W k.k0)) ∧ w'.cell? ⟨w0.heap.size, 1, none⟩ = some (.int .u32 (W k.k1)) ∧ w'.cell? ⟨w0.heap.size, 2, none⟩ = some (.int .u32 (W k.k2)) ∧ w'.cell? ⟨w0.heap.size, 3, none⟩ = some (.int .u32 (W k.k3)) ∧
      w'.cell? ⟨w0.heap.size, 4, none⟩ = some (.int .u32 (W k.k4)) ∧ w'.cell? ⟨w0.heap.size, 5, none⟩ = some (.int .u32 (W k.k5)) ∧ w'.cell? ⟨w0.heap.size, 6, none⟩ = some (.int .u32 (W k.k6)) ∧ w'.cell? ⟨w0.heap.size, 7, none⟩ = some (.int .u32 (W k.k7))) →
      wpList Try.prog ops Q rest (a.put o.dst (.slice A' r.length c')) w') :
    wpList Try.prog ops Q (o :: rest) a (w.alloc (.cells #[.int .u8 (W z % 256), .int .u8 (W z / 256 % 256), .int .u8 (W z / 65536 % 256), .int .u8 (W z / 16777216 % 256)] 5)) :=
  wpList_app hgd s x ho hs (h.alloc _).2.2 (m := le4 z) hx (bts4 w z) (by rw [hr.out]; simp [le4]; omega) (by have := h.2.1.lt; simp; omega)
    fun A' c' r w' h1 h2 h3 _ => hK A' c' r w' ((h.alloc _).grown h3 h2) (by have e := h1.out; rw [hr.out, List.append_assoc] at e; exact e) ((h.alloc _).grown h3 h2).2.1.eight
theorem Own.cap {w : World} {base : Nat} {A : Option Addr} {c : Nat} {l : List UInt8} (h : Own w base A c l) : l.length ≤ c := by
  rcases h.2 with ⟨e1, e2⟩ | ⟨g, cap, cur, hv, hg, hh, hnc, hm, hcs, ht⟩
  · rw [e2]; omega
  · injection hv with a1 a2 a3; omega
theorem Own.take {w : World} {base : Nat} {A : Option Addr} {c : Nat} {l : List UInt8} (h : Own w base A c l) (n : Nat) (hn : n ≤ l.length) : Own w base A c (l.take n) := by
  obtain ⟨h1, h2⟩ := h
  have e : (l.take n).length = n := by rw [List.length_take]; omega
  refine ⟨by rw [bvals_len]; simp, ?_⟩
  rw [e]
  rcases h2 with ⟨e1, e2⟩ | ⟨g, cap, cur, hv, hg, hh, hnc, hm, hcs, ht⟩
  · left
    injection e1 with a1 a2 a3
    exact ⟨by rw [a1, a3]; congr; omega, by omega⟩
  · right
    injection hv with a1 a2 a3
    subst a1 a3
    refine ⟨g, c, cur, rfl, hg, hh, by omega, hm, hcs, ?_⟩
    have hlt : n * 1 ≤ l.length * 1 := by omega
    rw [show bvals (l.take n) = (bvals l).take n from List.map_take, ← ht, List.take_take, Nat.mul_one, Nat.mul_one, Nat.min_eq_left hn]
set_option maxHeartbeats 4000000 in
theorem stream_bad (k : K8) (p n : Int) (w : World) (hn : n < 0 ∨ 100000 < n) :
    Calls Try.prog 46 #[.agg k.vals.toArray, .int .i64 p, .int .i64 n] w fun e w' => e = .returned (.slice none 0 0) ∧ Below w.heap.size w w' := by
  have hb0 : Below w.heap.size w (w.alloc (.cells k.vals.toArray 28)) := (Below.refl _ _).alloc (Nat.le_refl _) _
  unfold K8.vals at *
  rcases hn with hn | hn
  · go_enter Try.func46, Try.ntmps46
    go_wp2_with fail
    go_ret
    exact ⟨rfl, hb0⟩
  · go_enter Try.func46, Try.ntmps46
    go_wp2_with fail
    go_ret
    exact ⟨rfl, hb0⟩
set_option maxRecDepth 20000 in
set_option maxHeartbeats 8000000 in
theorem stream_any (k : K8) (p : Int) (n : Nat) (w : World) (hn : n ≤ 100000) :
    Calls Try.prog 46 #[.agg k.vals.toArray, .int .i64 p, .int .i64 n] w fun e w' => ∃ A c r, Hid (r = streamL k p n) ∧ e = .returned (.slice A r.length c) ∧ Own w' (w.heap.size + 1) A c r ∧ Below w.heap.size w w' := by
  have hpw : (p % 4294967296) = W (BitVec.ofInt 32 p) := (W_ofInt p).symm
  have hst : StP w k none 0 [] (w.alloc (.cells k.vals.toArray 28)) := ⟨(Below.refl _ _).alloc (Nat.le_refl _) _, Holds.new w 28 _, Own.nil _ _⟩
  unfold K8.vals at *
  go_enter Try.func46, Try.ntmps46
  go_wp2_with fail
  go_loopw [7, 8] (fun v x wr => ∃ (q : Nat) (A : Option Addr) (c : Nat) (r : List UInt8), Hid (r = rowsL k p q) ∧ r.length = 32 * q ∧ 32 * q < n + 32 ∧ v = .slice A r.length c ∧ x = .int .u32 (W (BitVec.ofNat 32 q)) ∧ StP w k A c r wr)
    (fun v _ _ => n + 32 - (match v with | .slice _ l _ => l | _ => 0))
  case atStart => exact ⟨0, none, 0, [], rfl, rfl, by omega, rfl, rfl, hst⟩
  case round =>
    clear hst
    obtain ⟨q, A, c, r, hr, hlen, hq, rfl, rfl, hst⟩ := hrel
    have hlt0 : r.length < n ∨ n ≤ r.length := by omega
    have HL := Lib.hid hlen
    have hR : r.length ≤ 100000 + 32 := by omega
    clear hlen
    rcases hlt0 with hlt | hlt
    · have h8 := hst.2.1.eight
      go_wp2_with fail
      refine (mix_any (blkK k p (BitVec.ofNat 32 q)) _).mono ?_
      rintro e w1 ⟨rfl, hb1⟩
      obtain ⟨x, hx1⟩ : ∃ x, x = BitVec.ofNat 32 q + 1 := ⟨_, rfl⟩
      replace hst : StP w k A c r w1 := StP.below ?st hb1
      case st =>
        refine hst.below ?_
        repeat (refine Below.setCell ?_ (by simp) _)
        exact (Below.refl _ _).alloc (Nat.le_refl _) _
      clear h8
      have h8 := hst.2.1.eight
      have hr0 : Hid (r = r ++ []) := (List.append_nil r).symm
      clear hR
      have hR : r.length ≤ 100000 := by omega
      generalize hm : mix (blkK k p (BitVec.ofNat 32 q)) = m at *
      have HM := Lib.hid hm
      clear hm
      unfold K8.vals
      go_wp2_with fail
      refine wp_loop_rounds 9 ?_
      iterate 9 (
        rw [rounds_succ]
        go_wp2_with (at_builtin; (refine wpList_st rfl (.tmp 47) (.tmp 59) rfl (by rfl) hst hr0 hR (by simp [le4]) (by rfl) ?_); clear hst hr0 h8; intro A1 c1 r1 w2 hst hr0 h8))
      go_round
      case rel =>
        have hl2 : r1.length = r.length + 32 := by rw [hr0.out]; simp [le4]
        have e1 := HL.out
        refine ⟨q + 1, A1, c1, r1, ?_, by omega, by omega, rfl, by rw [BitVec.ofNat_add]; rfl, hst⟩
        rw [hr0.out, rowsL, HM.out, ← hr.out]; rfl
      case measure =>
        have hl2 : r1.length = r.length + 32 := by rw [hr0.out]; simp [le4]
        simp; omega
    · have e1 := HL.out
      have hd : (n + 31) / 32 = q := by omega
      have hfin : Hid (r.take n = streamL k p n) := by rw [streamL, hd, ← hr.out]; rfl
      have hfl : (r.take n).length = n := by rw [List.length_take]; omega
      have hot := hst.2.2.take n hlt
      have hbs := hst.1
      have hnc : n ≤ c := Nat.le_trans hlt hst.2.2.cap
      clear HL
      go_wp2_with fail
      go_ret
      refine ⟨A, c, r.take n, hfin, ?_, hot, hbs⟩
      rw [hfl]
      simp [go_sem]
end Go.Proofs.Ytcdklmicbbcknaa
