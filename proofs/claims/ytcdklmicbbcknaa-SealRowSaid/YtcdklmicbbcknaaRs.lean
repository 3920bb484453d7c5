/-
  the reference's Stream and Xor: what they come to, by walks of their text.
-/
import Derived.Test.YtcdklmicbbcknaaXo
import Derived.Test.YtcdklmicbbcknaaLr
import Derived.OneCell
namespace Go.Proofs.Ytcdklmicbbcknaa
open Go Go.RowKit
attribute [local go_sem] W_add W_sub bits_xor_W bits_or_W
def StR (w0 : World) (k : K8) (A : Option Addr) (c : Nat) (l : List UInt8) (w : World) : Prop := Below w0.heap.size w0 w ∧ Holds w w0.heap.size 32 k.vals ∧ Own w (w0.heap.size + 1) A c l
theorem StR.below {w0 : World} {k : K8} {A : Option Addr} {c : Nat} {l : List UInt8} {w w' : World} (h : StR w0 k A c l w) (hb : Below w.heap.size w w') : StR w0 k A c l w' :=
  ⟨h.1.trans (hb.mono h.1.size), h.2.1.below hb h.2.1.lt, h.2.2.below hb⟩
theorem StR.alloc {w0 : World} {k : K8} {A : Option Addr} {c : Nat} {l : List UInt8} {w : World} (h : StR w0 k A c l w) (o : Obj) : StR w0 k A c l (w.alloc o) := h.below ((Below.refl _ _).alloc (Nat.le_refl _) o)
theorem StR.grown {w0 : World} {k : K8} {A A' : Option Addr} {c c' : Nat} {l r : List UInt8} {w w' : World} (h : StR w0 k A c l w) (hg : w.grownBy w' (blk A)) (ho : Own w' (w0.heap.size + 1) A' c' r) : StR w0 k A' c' r w' :=
  ⟨h.1.grown hg h.1.size (fun b hb => by have := (h.2.2.lt b hb).1; omega), h.2.1.grown hg (fun e => by have := (h.2.2.lt _ e.symm).1; omega), ho⟩
def StQ (w0 : World) (k M : K8) (gx : Nat) (A : Option Addr) (c : Nat) (l : List UInt8) (w : World) : Prop := StR w0 k A c l w ∧ Holds w gx 32 M.vals ∧ blk A ≠ some gx
theorem StR.set {w0 : World} {k : K8} {A : Option Addr} {c : Nat} {l : List UInt8} {w : World} {gx : Nat} (h : StR w0 k A c l w) (hlt : w0.heap.size < gx) (hne : blk A ≠ some gx) (i : Nat) (v : Value) : StR w0 k A c l (w.setCell ⟨gx, i, none⟩ v) :=
  ⟨h.1.setCell (by show w0.heap.size ≤ gx; omega) v, h.2.1.far (p := ⟨gx, i, none⟩) (by show w0.heap.size ≠ gx; omega) v, ownsRow_setCell_other h.2.2 (by rw [ownBlock_blk]; exact hne) v⟩
theorem StQ.made {w0 : World} {k m K' : K8} {A : Option Addr} {c : Nat} {l : List UInt8} {w : World} {gx : Nat} (h : StR w0 k A c l w) (hg : Holds w gx 32 K'.vals) (hlt : w0.heap.size < gx) (hne : blk A ≠ some gx) : StQ w0 k m gx A c l ((((((((w.setCell ⟨gx, 0, none⟩ (.int .u32 (W m.k0))).setCell ⟨gx, 1, none⟩ (.int .u32 (W m.k1))).setCell ⟨gx, 2, none⟩ (.int .u32 (W m.k2))).setCell ⟨gx, 3, none⟩ (.int .u32 (W m.k3))).setCell ⟨gx, 4, none⟩ (.int .u32 (W m.k4))).setCell ⟨gx, 5, none⟩ (.int .u32 (W m.k5))).setCell ⟨gx, 6, none⟩ (.int .u32 (W m.k6))).setCell ⟨gx, 7, none⟩ (.int .u32 (W m.k7))) :=
  ⟨((((((((h.set hlt hne 0 (.int .u32 (W m.k0))).set hlt hne 1 (.int .u32 (W m.k1))).set hlt hne 2 (.int .u32 (W m.k2))).set hlt hne 3 (.int .u32 (W m.k3))).set hlt hne 4 (.int .u32 (W m.k4))).set hlt hne 5 (.int .u32 (W m.k5))).set hlt hne 6 (.int .u32 (W m.k6))).set hlt hne 7 (.int .u32 (W m.k7))), ((((((((hg.set 0 (.int .u32 (W m.k0))).set 1 (.int .u32 (W m.k1))).set 2 (.int .u32 (W m.k2))).set 3 (.int .u32 (W m.k3))).set 4 (.int .u32 (W m.k4))).set 5 (.int .u32 (W m.k5))).set 6 (.int .u32 (W m.k6))).set 7 (.int .u32 (W m.k7))), hne⟩
theorem StQ.drew {w0 : World} {k m : K8} {A : Option Addr} {c : Nat} {l : List UInt8} {w : World} {gx : Nat} (h : StQ w0 k m gx A c l w) : StQ w0 k m gx A c l w.drew := ⟨⟨h.1.1.drew, h.1.2.1.drew, h.1.2.2.drew⟩, h.2.1.drew, h.2.2⟩
theorem wpList_sq {ops : Array Oper} {rest : List Oper} {o : Oper} {a : Act} {Q : Exit → Act → World → Prop} {w0 w : World} {k M : K8} {gx : Nat} {A : Option Addr} {c c2 : Nat} {l R xs : List UInt8} {z : BitVec 32} (hgd : o.guard = none) (s x : Operand)
    (ho : o.op = .call { callee := .builtin .append, args := #[s, x], argTypes := #[24, 24] }) (hs : a.eval s = .slice A l.length c) (h : StQ w0 k M gx A c l w) (hr : Hid (l = R ++ xs)) (hR : R.length ≤ 100000) (hxs : xs.length ≤ 28)
    (hx : a.eval x = .slice (some ⟨w.heap.size, 0, none⟩) 4 c2)
    (hK : ∀ A' c' r w', StQ w0 k M gx A' c' r w' → Hid (r = R ++ (xs ++ le4 z)) → (w'.cell? ⟨w0.heap.size, 0, none⟩ = some (.int .u32 (W k.k0)) ∧ w'.cell? ⟨w0.heap.size, 1, none⟩ = some (.int .u32 (W k.k1)) ∧ w'.cell? ⟨w0.heap.size, 2, none⟩ = some (.int .u32 (W k.k2)) ∧ w'.cell? ⟨w0.heap.size, 3, none⟩ = some (.int .u32 (W k.k3)) ∧
      w'.cell? ⟨w0.heap.size, 4, none⟩ = some (.int .u32 (W k.k4)) ∧ w'.cell? ⟨w0.heap.size, 5, none⟩ = some (.int .u32 (W k.k5)) ∧ w'.cell? ⟨w0.heap.size, 6, none⟩ = some (.int .u32 (W k.k6)) ∧ w'.cell? ⟨w0.heap.size, 7, none⟩ = some (.int .u32 (W k.k7))) →
      (w'.cell? ⟨gx, 0, none⟩ = some (.int .u32 (W M.k0)) ∧ w'.cell? ⟨gx, 1, none⟩ = some (.int .u32 (W M.k1)) ∧ w'.cell? ⟨gx, 2, none⟩ = some (.int .u32 (W M.k2)) ∧ w'.cell? ⟨gx, 3, none⟩ = some (.int .u32 (W M.k3)) ∧
      w'.cell? ⟨gx, 4, none⟩ = some (.int .u32 (W M.k4)) ∧ w'.cell? ⟨gx, 5, none⟩ = some (.int .u32 (W M.k5)) ∧ w'.cell? ⟨gx, 6, none⟩ = some (.int .u32 (W M.k6)) ∧ w'.cell? ⟨gx, 7, none⟩ = some (.int .u32 (W M.k7))) →
      wpList Try.prog ops Q rest (a.put o.dst (.slice A' r.length c')) w') :
    wpList Try.prog ops Q (o :: rest) a (w.alloc (.cells #[.int .u8 (W z % 256), .int .u8 (W z / 256 % 256), .int .u8 (W z / 65536 % 256), .int .u8 (W z / 16777216 % 256)] 5)) :=
  wpList_app hgd s x ho hs (h.1.alloc _).2.2 (m := le4 z) hx (bts4 w z) (by rw [hr.out]; simp [le4]; omega) (by have := h.1.2.1.lt; simp; omega)
    fun A' c' r w' h1 h2 h3 h4 =>
      have hq : Holds w' gx 32 M.vals := (h.2.1.alloc _).grown h3 (fun e => h.2.2 e.symm)
      have hne : blk A' ≠ some gx := by
        rcases h4 with h4 | h4
        · rw [h4]; exact h.2.2
        · rw [h4]; intro e; have := h.2.1.lt; have e := Option.some.inj e; rw [World.size_alloc] at e; omega
      hK A' c' r w' ⟨(h.1.alloc _).grown h3 h2, hq, hne⟩ (by have e := h1.out; rw [hr.out, List.append_assoc] at e; exact e) ((h.1.alloc _).grown h3 h2).2.1.eight hq.eight
set_option maxRecDepth 20000 in
set_option maxHeartbeats 16000000 in
theorem rstream_any (k : K8) (p : Int) (n : Nat) (w : World) (hn : n ≤ 100000) :
    Calls Try.prog 47 #[.agg k.vals.toArray, .int .i64 p, .int .i64 n] w fun e w' => e = .returned (.string (mkStr (streamL k p n))) ∧ Below w.heap.size w w' := by
  have hpw : (p % 4294967296) = W (BitVec.ofInt 32 p) := (W_ofInt p).symm
  have hst : StR w k none 0 [] (w.alloc (.cells k.vals.toArray 32)) := ⟨(Below.refl _ _).alloc (Nat.le_refl _) _, Holds.new w 32 _, Own.nil _ _⟩
  unfold K8.vals at *
  go_enter Try.func47, Try.ntmps47
  go_wp2_with fail
  go_loopw [7, 8] (fun v x wr => ∃ (q : Nat) (A : Option Addr) (c : Nat) (r : List UInt8), Hid (r = rowsL k p q) ∧ r.length = 32 * q ∧ 32 * q < n + 32 ∧ v = .slice A r.length c ∧ x = .int .i64 q ∧ StR w k A c r wr)
    (fun v _ _ => n + 32 - (match v with | .slice _ l _ => l | _ => 0))
  case atStart => exact ⟨0, none, 0, [], rfl, rfl, by omega, rfl, rfl, hst⟩
  case round =>
    clear hst
    obtain ⟨q, A, c, r, hr, hlen, hq, rfl, rfl, hst⟩ := hrel
    have hlt0 : r.length < n ∨ n ≤ r.length := by omega
    have HL := Lib.hid hlen
    have hR : r.length ≤ 100000 + 32 := by omega
    obtain ⟨y, HY, hqw⟩ : ∃ y : BitVec 32, Hid (y = BitVec.ofNat 32 q) ∧ bits .xor .u32 (W k.k1) (q : Int) = W (k.k1 ^^^ y) := ⟨_, rfl, by
      have e : (q : Int) = W (BitVec.ofNat 32 q) := by unfold W; rw [BitVec.toNat_ofNat]; omega
      rw [e, bits_xor_W]⟩
    clear hlen
    rcases hlt0 with hlt | hlt
    · have h8 := hst.2.1.eight
      go_wp2_with fail
      refine (rmix_any (blkK k p y) _).mono ?_
      rintro e w1 ⟨rfl, hb1⟩
      have hst1 : StR w k A c r w1 := by
        refine StR.below (w := wr) hst ?_
        refine Below.trans ?_ (hb1.mono (by simp))
        repeat (refine Below.setCell ?_ (by simp) _)
        exact (Below.refl _ _).alloc (Nat.le_refl _) _
      have hgx : Holds w1 wr.heap.size 32 (blkK k p y).vals := Holds.below ?hgx hb1 (by simp)
      case hgx => exact Holds.newAt wr 32 _ rfl
      generalize hm : mix (blkK k p y) = m at *
      have HM := Lib.hid hm
      clear hm h8
      have hgx8 := hgx.eight
      have hgxf := hgx.eightFree
      have hgA : blk A ≠ some wr.heap.size := fun e => by have := (hst.2.2.lt _ e).2; omega
      have hst2 := StQ.made (m := m) hst1 hgx hst.2.1.lt hgA
      have hr0 : Hid (r = r ++ []) := (List.append_nil r).symm
      have k8 := hst2.1.2.1.eight
      have m8 := hst2.2.1.eight
      clear hR
      have hR : r.length ≤ 100000 := by omega
      unfold K8.vals
      go_wp2_with fail
      clear hgx8 hgxf hst1 hgx hst
      generalize ((((((((w1.setCell ⟨wr.heap.size, 0, none⟩ (.int .u32 (W m.k0))).setCell ⟨wr.heap.size, 1, none⟩ (.int .u32 (W m.k1))).setCell ⟨wr.heap.size, 2, none⟩ (.int .u32 (W m.k2))).setCell ⟨wr.heap.size, 3, none⟩ (.int .u32 (W m.k3))).setCell ⟨wr.heap.size, 4, none⟩ (.int .u32 (W m.k4))).setCell ⟨wr.heap.size, 5, none⟩ (.int .u32 (W m.k5))).setCell ⟨wr.heap.size, 6, none⟩ (.int .u32 (W m.k6))).setCell ⟨wr.heap.size, 7, none⟩ (.int .u32 (W m.k7))) = wx at hst2 k8 m8 ⊢
      refine wp_loop_rounds 9 ?_
      iterate 8 (
        rw [rounds_succ]
        go_wp2_with fail
        go_region
        go_wp2_with (at_builtin; refine wpList_sq rfl (.tmp 50) (.tmp 62) rfl (by rfl) (StQ.drew hst2) hr0 hR (by simp [le4]) (by rfl) ?_; clear hst2 hr0 k8 m8; intro A1 c1 r1 w2 hst2 hr0 k8 m8))
      rw [rounds_succ]
      go_wp2_with fail
      go_round
      case rel =>
        have hl2 : r1.length = r.length + 32 := by rw [hr0.out]; simp [le4]
        have e1 := HL.out
        refine ⟨q + 1, A1, c1, r1, ?_, by omega, by omega, rfl, by go_num, hst2.1⟩
        rw [hr0.out, rowsL, ← HY.out, HM.out, ← hr.out]; rfl
      case measure =>
        have hl2 : r1.length = r.length + 32 := by rw [hr0.out]; simp [le4]
        simp; omega
    · have e1 := HL.out
      have hd : (n + 31) / 32 = q := by omega
      have hfin : r.take n = streamL k p n := by rw [streamL, hd, ← hr.out]
      have hfl : (r.take n).length = n := by rw [List.length_take]; omega
      have hot := (hst.2.2.take n hlt).bts
      have hrun := run_str hot c
      rw [hfl, hfin] at hrun
      have hbs := hst.1
      have hnc : n ≤ c := Nat.le_trans hlt hst.2.2.cap
      clear HL
      go_wp2_with fail
      go_ret
      exact ⟨rfl, hbs⟩
end Go.Proofs.Ytcdklmicbbcknaa
