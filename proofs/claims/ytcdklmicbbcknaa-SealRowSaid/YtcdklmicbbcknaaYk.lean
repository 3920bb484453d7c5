/-
  The key of a password as plain functions. No program in sight.
-/
import Derived.Test.YtcdklmicbbcknaaPb
namespace Go.Proofs.Ytcdklmicbbcknaa
/-- eight bytes: a salt -/
@[ext] structure S8 where
  (s0 s1 s2 s3 s4 s5 s6 s7 : UInt8)
def S8.list (s : S8) : List UInt8 := [s.s0, s.s1, s.s2, s.s3, s.s4, s.s5, s.s6, s.s7]
def S8.vals (s : S8) : List Value := [.int .u8 (s.s0.toNat : Int), .int .u8 (s.s1.toNat : Int), .int .u8 (s.s2.toNat : Int), .int .u8 (s.s3.toNat : Int), .int .u8 (s.s4.toNat : Int), .int .u8 (s.s5.toNat : Int), .int .u8 (s.s6.toNat : Int), .int .u8 (s.s7.toNat : Int)]
def sw (a b : UInt8) : BitVec 32 := BitVec.ofNat 32 (a.toNat + 256 * b.toNat)
def kwd (l : List UInt8) (i : Nat) (a b : UInt8) : BitVec 32 := sumW (BitVec.ofNat 32 (i + 2)) (BitVec.ofNat 32 i) l ^^^ sw a b
/-- the first j words of a password's key before its rounds, the others 0 -/
def kwK (l : List UInt8) (s : S8) (j : Nat) : K8 :=
  ⟨if 0 < j then kwd l 0 s.s0 s.s1 else 0, if 1 < j then kwd l 1 s.s1 s.s2 else 0, if 2 < j then kwd l 2 s.s2 s.s3 else 0, if 3 < j then kwd l 3 s.s3 s.s4 else 0,
   if 4 < j then kwd l 4 s.s4 s.s5 else 0, if 5 < j then kwd l 5 s.s5 s.s6 else 0, if 6 < j then kwd l 6 s.s6 s.s7 else 0, if 7 < j then kwd l 7 s.s7 s.s0 else 0⟩
def x7 (m : K8) (n : Nat) : K8 := ⟨m.k0, m.k1, m.k2, m.k3, m.k4, m.k5, m.k6, m.k7 ^^^ BitVec.ofNat 32 n⟩
def krun : Nat → K8 → K8
  | 0, k => k
  | n + 1, k => x7 (mix (krun n k)) (n + 1)
def keyL (l : List UInt8) (s : S8) (n : Nat) : K8 := krun n (kwK l s 8)
def K0 : K8 := ⟨0, 0, 0, 0, 0, 0, 0, 0⟩
theorem x7_inj {m m' : K8} {n : Nat} (h : x7 m n = x7 m' n) : m = m' := by
  obtain ⟨a0, a1, a2, a3, a4, a5, a6, a7⟩ := m
  obtain ⟨b0, b1, b2, b3, b4, b5, b6, b7⟩ := m'
  simp only [x7, K8.mk.injEq] at h ⊢
  obtain ⟨h0, h1, h2, h3, h4, h5, h6, h7⟩ := h
  refine ⟨h0, h1, h2, h3, h4, h5, h6, ?_⟩
  have := congrArg (· ^^^ BitVec.ofNat 32 n) h7
  simpa [BitVec.xor_assoc] using this
theorem krun_inj (n : Nat) : ∀ {k k' : K8}, krun n k = krun n k' → k = k' := by
  induction n with
  | zero => exact fun h => h
  | succ n ih => exact fun h => ih (by have h1 := x7_inj h; have h2 := congrArg back h1; rwa [back_mix, back_mix] at h2)
theorem kwd_inj {l : List UInt8} {i : Nat} {a b a' b' : UInt8} (h : kwd l i a b = kwd l i a' b') : a = a' ∧ b = b' := by
  have h1 : sw a b = sw a' b' := by
    have := congrArg (sumW (BitVec.ofNat 32 (i + 2)) (BitVec.ofNat 32 i) l ^^^ ·) h
    unfold kwd at this
    simpa [← BitVec.xor_assoc] using this
  have h2 := congrArg BitVec.toNat h1
  unfold sw at h2
  rw [BitVec.toNat_ofNat, BitVec.toNat_ofNat] at h2
  have ha := UInt8.toNat_lt a
  have hb := UInt8.toNat_lt b
  have ha' := UInt8.toNat_lt a'
  have hb' := UInt8.toNat_lt b'
  exact ⟨UInt8.toNat_inj.1 (by omega), UInt8.toNat_inj.1 (by omega)⟩
theorem keyL_inj (l : List UInt8) (s s' : S8) (n : Nat) (h : keyL l s n = keyL l s' n) : s = s' := by
  have h1 := krun_inj n h
  unfold kwK at h1
  simp only [K8.mk.injEq, Nat.reduceLT, if_true] at h1
  obtain ⟨h0, h1, h2, h3, h4, h5, h6, h7⟩ := h1
  exact S8.ext (kwd_inj h0).1 (kwd_inj h1).1 (kwd_inj h2).1 (kwd_inj h3).1 (kwd_inj h4).1 (kwd_inj h5).1 (kwd_inj h6).1 (kwd_inj h7).1
theorem W_sw (a b : UInt8) : W (sw a b) = (a.toNat : Int) + 256 * (b.toNat : Int) := by
  unfold W sw
  have ha := UInt8.toNat_lt a
  have hb := UInt8.toNat_lt b
  rw [BitVec.toNat_ofNat]; omega
end Go.Proofs.Ytcdklmicbbcknaa
