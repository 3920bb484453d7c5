/-
  Go's == and != between two arrays of integers, in the model: whether the two rows of numbers are one.
-/
import Derived.ChangeKeysEq
import Derived.Laws.StructEq
import Derived.WalkKit
namespace Go.Proofs.Ytcdklmicbbcknaa
open Go
section
variable {P : Program} (w : World)

theorem run_part_int {e : TypeId} {k : IntKind} (he : P.underlying e = some (.int k)) {xs : Array Value} {off : Nat} {v : Value} (hx : xs[off]? = some v) : (part e xs off).run P w = .ok v w := by
  simp [part, isAgg, run_underlying he, hx]

theorem run_eqItems_ints (d : Nat) {e : TypeId} {k : IntKind} (he : P.underlying e = some (.int k)) (xs ys : Array Value) : ∀ (is : List Nat) (as bs : Nat → Int), (∀ i ∈ is, xs[i]? = some (.int k (as i))) → (∀ i ∈ is, ys[i]? = some (.int k (bs i))) →
    (Op.eqItems (d + 1) e 1 xs ys is).run P w = .ok (is.all fun i => as i == bs i) w
  | [], _, _, _, _ => by simp [Op.eqItems]
  | i :: is, as, bs, ha, hb => by
    have h1 := ha i (by simp)
    have h2 := hb i (by simp)
    have p1 := run_part_int (P := P) w he (off := i * 1) (by rw [Nat.mul_one]; exact h1)
    have p2 := run_part_int (P := P) w he (off := i * 1) (by rw [Nat.mul_one]; exact h2)
    have p3 := run_equalIn_int (P := P) w d e k k (as i) (bs i) he
    have ih := run_eqItems_ints d he xs ys is as bs (fun j hj => ha j (by simp [hj])) (fun j hj => hb j (by simp [hj]))
    simp only [Op.eqItems, Sem.run_bind, p1, p2, p3, Result.andThen_ok, List.all_cons]
    cases hab : (as i == bs i)
    · simp
    · simpa using ih

theorem all_eq_iff (as bs : List Int) (n : Nat) (ha : as.length = n) (hb : bs.length = n) : ((List.range n).all fun i => as.getD i 0 == bs.getD i 0) = decide (as = bs) := by
  rw [Bool.eq_iff_iff]
  simp only [List.all_eq_true, List.mem_range, beq_iff_eq, decide_eq_true_eq]
  constructor
  · intro h
    apply List.ext_getElem (by omega)
    intro i h1 h2
    have := h i (by omega)
    simpa [List.getD_eq_getElem?_getD, List.getElem?_eq_getElem h1, List.getElem?_eq_getElem h2] using this
  · intro h i _; rw [h]

theorem run_eql_ints (t e : TypeId) (n : Nat) (k : IntKind) {i : TypeInfo} (hu : P.underlying t = some (.array n e)) (hi : P.info? e = some i) (hc : P.cellsOf e = 1) (he : P.underlying e = some (.int k)) (as bs : List Int) (ha : as.length = n) (hb : bs.length = n) :
    (binOp .eql t (.agg (as.map (Value.int k)).toArray) (.agg (bs.map (Value.int k)).toArray)).run P w = .ok (.bool (decide (as = bs))) w := by
  rw [run_eql_struct, show (10000 : Nat) = 9998 + 1 + 1 from rfl, run_equalIn_array w (9998 + 1) _ _ hu hi, hc,
    run_eqItems_ints w 9998 he _ _ (List.range n) (fun i => as.getD i 0) (fun i => bs.getD i 0), Result.andThen_ok, all_eq_iff as bs n ha hb]
  · intro j hj
    have : j < as.length := by rw [ha]; exact List.mem_range.1 hj
    simp [List.getD_eq_getElem?_getD, List.getElem?_eq_getElem this]
  · intro j hj
    have : j < bs.length := by rw [hb]; exact List.mem_range.1 hj
    simp [List.getD_eq_getElem?_getD, List.getElem?_eq_getElem this]
theorem run_neq_ints (t e : TypeId) (n : Nat) (k : IntKind) {i : TypeInfo} (hu : P.underlying t = some (.array n e)) (hi : P.info? e = some i) (hc : P.cellsOf e = 1) (he : P.underlying e = some (.int k)) (as bs : List Int) (ha : as.length = n) (hb : bs.length = n) :
    (binOp .neq t (.agg (as.map (Value.int k)).toArray) (.agg (bs.map (Value.int k)).toArray)).run P w = .ok (.bool (!decide (as = bs))) w := by
  rw [run_neq_struct, show (10000 : Nat) = 9998 + 1 + 1 from rfl, run_equalIn_array w (9998 + 1) _ _ hu hi, hc,
    run_eqItems_ints w 9998 he _ _ (List.range n) (fun i => as.getD i 0) (fun i => bs.getD i 0), Result.andThen_ok, all_eq_iff as bs n ha hb]
  · intro j hj
    have : j < as.length := by rw [ha]; exact List.mem_range.1 hj
    simp [List.getD_eq_getElem?_getD, List.getElem?_eq_getElem this]
  · intro j hj
    have : j < bs.length := by rw [hb]; exact List.mem_range.1 hj
    simp [List.getD_eq_getElem?_getD, List.getElem?_eq_getElem this]
end
end Go.Proofs.Ytcdklmicbbcknaa
