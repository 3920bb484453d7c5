/-
  The keyed sum (tag.Sum) and the tag as plain functions; that one byte turned turns the sum. No program in sight.
-/
import Derived.Test.YtcdklmicbbcknaaPa
namespace Go.Proofs.Ytcdklmicbbcknaa

def sStep (x n b : Nat) : Nat := (n * x + b + 1) % 4294967291
def sFold (x : Nat) : Nat → List UInt8 → Nat
  | n, [] => n
  | n, b :: l => sFold x (sStep x n b.toNat) l
def sumX (r : Nat) : Nat := r % 4294967290 + 1
def sumN (r s : Nat) (l : List UInt8) : Nat := (sFold (sumX r) (s % 4294967291) l * sumX r + l.length) % 4294967291
def sumW (r s : BitVec 32) (l : List UInt8) : BitVec 32 := BitVec.ofNat 32 (sumN r.toNat s.toNat l)

theorem sumX_lo (r : Nat) : 1 ≤ sumX r := by unfold sumX; omega
theorem sumX_hi (r : Nat) : sumX r ≤ 4294967290 := by unfold sumX; omega
theorem sStep_hi (x n b : Nat) : sStep x n b < 4294967291 := Nat.mod_lt _ (by omega)
theorem sFold_hi (x : Nat) : ∀ (l : List UInt8) (n : Nat), n < 4294967291 → sFold x n l < 4294967291
  | [], _, h => h
  | _ :: l, _, _ => sFold_hi x l _ (sStep_hi _ _ _)
theorem sumN_hi (r s : Nat) (l : List UInt8) : sumN r s l < 4294967291 := Nat.mod_lt _ (by omega)
theorem sumW_eq (r s : BitVec 32) (l : List UInt8) : W (sumW r s l) = (sumN r.toNat s.toNat l : Int) := by
  unfold W sumW
  rw [BitVec.toNat_ofNat, Nat.mod_eq_of_lt]
  have := sumN_hi r.toNat s.toNat l
  omega
theorem sFold_append (x : Nat) : ∀ (l m : List UInt8) (n : Nat), sFold x n (l ++ m) = sFold x (sFold x n l) m
  | [], _, _ => rfl
  | _ :: l, m, _ => sFold_append x l m _
theorem sFold_take (x n : Nat) (l : List UInt8) (k : Nat) (h : k < l.length) : sFold x n (l.take (k + 1)) = sStep x (sFold x n (l.take k)) (l.getD k 0).toNat := by
  rw [List.take_succ_eq_append_getElem h, sFold_append, List.getD_eq_getElem?_getD, List.getElem?_eq_getElem h]
  rfl
theorem prod_hi (n x : Nat) (hn : n < 4294967291) (hx : x ≤ 4294967290) : n * x ≤ 18446744030759878100 := by
  calc n * x ≤ 4294967290 * 4294967290 := Nat.mul_le_mul (by omega) hx
    _ ≤ _ := by decide
theorem prod_int (n x : Nat) (hn : n < 4294967291) (hx : x ≤ 4294967290) : (0 : Int) ≤ (n : Int) * (x : Int) ∧ (n : Int) * (x : Int) ≤ 18446744030759878100 := by
  have h := prod_hi n x hn hx
  have e : ((n * x : Nat) : Int) = (n : Int) * (x : Int) := Int.natCast_mul n x
  omega
theorem getD_bytes (b : ByteArray) (k : Nat) (h : k < b.size) : b.data.toList.getD k 0 = b[k] := by
  rw [List.getD_eq_getElem?_getD, List.getElem?_eq_getElem (show k < b.data.toList.length from h)]; rfl
/-- the mixed key of a tag -/
def tagK (k : K8) (p : Int) : K8 := ⟨k.k0, k.k1, k.k2 ^^^ BitVec.ofInt 32 p, k.k3, k.k4, k.k5, k.k6, k.k7⟩
/-- a word's bytes, the lowest first -/
def le4 (x : BitVec 32) : List UInt8 := [UInt8.ofNat x.toNat, UInt8.ofNat (x.toNat / 256), UInt8.ofNat (x.toNat / 65536), UInt8.ofNat (x.toNat / 16777216)]
def tagM (m : K8) (l : List UInt8) : List UInt8 := le4 (sumW m.k0 m.k1 l) ++ le4 (sumW m.k2 m.k3 l)
def tagL (k : K8) (p : Int) (l : List UInt8) : List UInt8 := tagM (mix (tagK k p)) l
/-- bytes as values -/
def bvals (l : List UInt8) : List Value := l.map fun b => .int .u8 (b.toNat : Int)
theorem le4_vals (x : BitVec 32) : bvals (le4 x) = [.int .u8 (W x % 256), .int .u8 (W x / 256 % 256), .int .u8 (W x / 65536 % 256), .int .u8 (W x / 16777216 % 256)] := by
  simp only [bvals, le4, List.map_cons, List.map_nil, UInt8.toNat_ofNat', W]
  rfl
theorem tagM_vals (m : K8) (l : List UInt8) : bvals (tagM m l) = [.int .u8 (W (sumW m.k0 m.k1 l) % 256), .int .u8 (W (sumW m.k0 m.k1 l) / 256 % 256), .int .u8 (W (sumW m.k0 m.k1 l) / 65536 % 256), .int .u8 (W (sumW m.k0 m.k1 l) / 16777216 % 256),
    .int .u8 (W (sumW m.k2 m.k3 l) % 256), .int .u8 (W (sumW m.k2 m.k3 l) / 256 % 256), .int .u8 (W (sumW m.k2 m.k3 l) / 65536 % 256), .int .u8 (W (sumW m.k2 m.k3 l) / 16777216 % 256)] := by
  have h : bvals (tagM m l) = bvals (le4 (sumW m.k0 m.k1 l)) ++ bvals (le4 (sumW m.k2 m.k3 l)) := by simp [bvals, tagM]
  rw [h, le4_vals, le4_vals]; rfl
theorem bits_xor_B (x y : UInt8) : bits .xor .u8 (x.toNat : Int) (y.toNat : Int) = ((x ^^^ y).toNat : Int) := by
  have h : ∀ z : UInt8, BitVec.ofInt 8 (z.toNat : Int) = z.toBitVec := fun z => by
    apply BitVec.eq_of_toNat_eq; rw [BitVec.toNat_ofInt]; have := UInt8.toNat_lt z; simp; omega
  show IntKind.u8.wrap ((BitVec.ofInt 8 (x.toNat : Int) ^^^ BitVec.ofInt 8 (y.toNat : Int)).toNat : Int) = _
  rw [h, h]
  have e : (x.toBitVec ^^^ y.toBitVec).toNat = (x ^^^ y).toNat := rfl
  rw [e]
  have := UInt8.toNat_lt (x ^^^ y)
  generalize (x ^^^ y).toNat = n at *
  simp [IntKind.wrap, IntKind.bits, IntKind.signed]; omega
theorem xor_self_iff (x t : UInt8) : x = x ^^^ t ↔ t = 0 := by
  constructor
  · intro h
    have h1 : x ^^^ x = x ^^^ (x ^^^ t) := congrArg (x ^^^ ·) h
    rw [← UInt8.xor_assoc, UInt8.xor_self, UInt8.zero_xor] at h1
    exact h1.symm
  · rintro rfl; simp
theorem xor_self_iff' (x t : UInt8) : x ^^^ t = x ↔ t = 0 := by rw [eq_comm, xor_self_iff]
theorem B_zero (t : UInt8) : ((t.toNat : Int) == 0) = decide (t = 0) := by
  rw [Bool.eq_iff_iff, beq_iff_eq, decide_eq_true_eq]
  constructor
  · intro h; exact UInt8.toNat_inj.1 (by simpa using h)
  · rintro rfl; rfl
theorem utmod (a : Int) (m : Nat) (hm : 0 < m) : ∃ c : Nat, c < m ∧ (IntKind.u64.wrap a).tmod (m : Int) = (c : Int) := by
  have h : 0 ≤ IntKind.u64.wrap a := by simp [IntKind.wrap, IntKind.bits, IntKind.signed]; omega
  rw [Int.tmod_eq_emod_of_nonneg h]
  refine ⟨(IntKind.u64.wrap a % (m : Int)).toNat, ?_, ?_⟩
  · have := Int.emod_lt_of_pos (IntKind.u64.wrap a) (show (0 : Int) < m by omega)
    have := Int.emod_nonneg (IntKind.u64.wrap a) (show (m : Int) ≠ 0 by omega)
    omega
  · have := Int.emod_nonneg (IntKind.u64.wrap a) (show (m : Int) ≠ 0 by omega)
    omega
end Go.Proofs.Ytcdklmicbbcknaa
