/-
  A region whose order Go leaves open, walked in one way though it stores: what holds of the world may hang on whether one operation of the region (number e) has come up already. Law and moves; no program in sight.
-/
import Derived.OrdersHeld
import Derived.Deep.RegionHeld
namespace Go.Proofs.Ytcdklmicbbcknaa
open Go

section
variable {P : Program} {ops : Array Oper} {Q : Exit → Act → World → Prop} {md : Region.Mode} {A B : World → Prop} {e : Nat}

/-- whoever is listed waited for nobody who is not -/
def Shutd (md : Region.Mode) (ops : Array Oper) (listed : Array Bool) : Prop :=
  ∀ j oj, ops[j]? = some oj → listed.getD j false = true → ∀ x ∈ oj.after, Region.binds md x = true → listed.getD x.on false = true

theorem Shutd.start (n : Nat) : Shutd md ops (Array.replicate n false) := fun j oj _ hl => by
  exfalso
  rcases Nat.lt_or_ge j n with h | h
  · simp [h] at hl
  · simp [h] at hl

theorem Shutd.next {i : Nat} {listed : Array Bool} (h : Shutd md ops listed) (hi : i ∈ Region.ready md ops listed) : Shutd md ops (listed.setIfInBounds i true) := by
  obtain ⟨_, oi, hoi, hall⟩ := mem_ready.1 hi
  intro j oj hj hl x hx hb
  by_cases hij : i = j
  · subst hij
    have : oj = oi := Option.some.inj (hj.symm.trans hoi)
    subst this
    exact getD_set_true (hall x hx hb)
  · rw [getD_set_ne false hij] at hl
    exact getD_set_true (h j oj hj hl x hx hb)

/-- what holds of the world: A always, B till number e has come up -/
def Till (e : Nat) (A B : World → Prop) (listed : Array Bool) (w : World) : Prop := A w ∧ (listed.getD e false = false → B w)

theorem Till.set {i : Nat} {listed : Array Bool} {w : World} (hne : i ≠ e) : Till e A B (listed.setIfInBounds i true) w ↔ Till e A B listed w := by
  unfold Till; rw [getD_set_ne false hne]

/-- Whatever order is picked from here on; what is to hold of the world behind each operation is shown. -/
def wpAnyT (P : Program) (md : Region.Mode) (ops : Array Oper) (Q : Exit → Act → World → Prop) (e : Nat) (A B : World → Prop) : Nat → Array Bool → Act → World → Prop
  | 0, listed, a, w => Region.ready md ops listed = [] ∧ Q .normal a w
  | fuel + 1, listed, a, w =>
    (Region.ready md ops listed = [] → Q .normal a w) ∧
    ∀ i ∈ Region.ready md ops listed, wpOp P ops Q i (fun a' w' => Till e A B (listed.setIfInBounds i true) w' ∧ wpAnyT P md ops Q e A B fuel (listed.setIfInBounds i true) a' w') a w

theorem wpAny_of_till : ∀ (fuel : Nat) (listed : Array Bool) (a : Act) (w : World), wpAnyT P md ops Q e A B fuel listed a w → wpAny P md ops Q fuel listed a w
  | 0, _, _, _, h => h
  | fuel + 1, _, _, _, h => ⟨h.1, fun i hi => wpOp_mono (fun a' w' h' => wpAny_of_till fuel _ a' w' h'.2) (h.2 i hi)⟩

/-- In state 'a', in every world that meets S: yields v. -/
theorem wpAnyT_first {i : Nat} {oi : Oper} {v : Value} {S : World → Prop} (hi : ops[i]? = some oi) (hsel : ∀ (j : Nat) (o : Oper) cs b, ops[j]? = some o → o.op ≠ .select cs b)
    (hQ : ∀ c a w, Q (.panic c) (a.put oi.dst v) w → Q (.panic c) a w) (hie : i ≠ e)
    (hS : ∀ listed w, Shutd md ops listed → listed.getD i false = false → Till e A B listed w → S w) :
    ∀ (fuel : Nat) (listed : Array Bool) (a : Act) (w : World), Shutd md ops listed → listed.getD i false = false →
      (∀ j oj, ops[j]? = some oj → j ≠ i → listed.getD j true = false → (∀ e ∈ oj.after, Region.binds md e = true → e.on ≠ i) → oi.apart ops oj = true) →
      i ∈ Region.ready md ops listed → YieldsIf P ops S oi v a → Till e A B listed w →
      wpAnyT P md ops Q e A B fuel (listed.setIfInBounds i true) (a.put oi.dst v) w → wpAnyT P md ops Q e A B (fuel + 1) listed a w := by
  intro fuel
  induction fuel with
  | zero =>
    intro listed a w hsh hun _ hr hy hT H
    refine ⟨fun h => (by rw [h] at hr; cases hr), fun j hj => ?_⟩
    by_cases hji : j = i
    · subst hji; exact hy.wpOp hi (hS _ _ hsh hun hT) ⟨(Till.set hie).2 hT, H⟩
    · have := ready_mono hj hji
      rw [H.1] at this
      cases this
  | succ fuel ih =>
    intro listed a w hsh hun hfree hr hy hT H
    refine ⟨fun h => (by rw [h] at hr; cases hr), fun j hj => ?_⟩
    by_cases hji : j = i
    · subst hji; exact hy.wpOp hi (hS _ _ hsh hun hT) ⟨(Till.set hie).2 hT, H⟩
    · have h1 := H.2 j (ready_mono hj hji)
      obtain ⟨hjun, oj, hoj, hall⟩ := mem_ready.1 hj
      have hnot : ∀ x ∈ oj.after, Region.binds md x = true → x.on ≠ i := fun x hx hb heq => by
        have h1 := hall x hx hb
        rw [heq, hun] at h1
        cases h1
      have h2 := wpOp_putIf hoj (hfree j oj hoj hji hjun hnot) (fun cs b => hsel i oi cs b hi) (fun cs b => hsel j oj cs b hoj) hQ hy h1
      have hfree' : ∀ k ok, ops[k]? = some ok → k ≠ i → (listed.setIfInBounds j true).getD k true = false →
          (∀ e ∈ ok.after, Region.binds md e = true → e.on ≠ i) → oi.apart ops ok = true := fun k ok hk hki hun hno => by
        refine hfree k ok hk hki ?_ hno
        by_cases hjk : j = k
        · subst hjk; exact hjun
        · rw [getD_set_ne true hjk] at hun; exact hun
      have hun' : (listed.setIfInBounds j true).getD i false = false := by rw [getD_set_ne false hji]; exact hun
      refine wpOp_mono (fun a' w' h3 => ?_) h2
      have hT' : Till e A B (listed.setIfInBounds j true) w' := by
        have := h3.2.1
        rw [Array.setIfInBounds_comm _ _ (Ne.symm hji)] at this
        exact (Till.set hie).1 this
      refine ⟨hT', ih (listed.setIfInBounds j true) a' w' (hsh.next hj) hun' hfree' (ready_mono hr (Ne.symm hji)) h3.1 hT' ?_⟩
      rw [Array.setIfInBounds_comm _ _ hji]
      exact h3.2.2

/-- number e waits for number i -/
def waitB (md : Region.Mode) (ops : Array Oper) (e i : Nat) : Bool :=
  match ops[e]? with
  | some oe => oe.after.any fun x => Region.binds md x && x.on == i
  | none => false

theorem waitB_spec {i : Nat} (h : waitB md ops e i = true) {listed : Array Bool} (hs : Shutd md ops listed) (hun : listed.getD i false = false) : listed.getD e false = false := by
  unfold waitB at h
  split at h
  · rename_i oe he
    obtain ⟨x, hx, hb⟩ := Array.any_eq_true'.1 h
    simp only [Bool.and_eq_true, beq_iff_eq] at hb
    cases hl : listed.getD e false with
    | false => rfl
    | true =>
      have := hs e oe he hl x hx hb.1
      rw [hb.2, hun] at this
      cases this
  · cases h

/-! ### The moves -/
/-- the goal of the walk -/
def Go_ (P : Program) (md : Region.Mode) (ops : Array Oper) (Q : Exit → Act → World → Prop) (e : Nat) (A B : World → Prop) (fuel : Nat) (listed : Array Bool) (a : Act) (w : World) : Prop :=
  Shutd md ops listed → Till e A B listed w → wpAnyT P md ops Q e A B fuel listed a w

theorem getD_both' {listed : Array Bool} {i : Nat} (h : listed.getD i true = false) : listed.getD i false = false := by
  rcases Nat.lt_or_ge i listed.size with h' | h'
  · simp [h'] at h ⊢; exact h
  · simp [Array.getElem?_eq_none h'] at h

/-- Take number i first: it yields v in every world that meets A. -/
theorem Go_.take {i : Nat} {oi : Oper} {v : Value} {fuel : Nat} {listed : Array Bool} {a : Act} {w : World} (hi : ops[i]? = some oi)
    (hs : Region.noSelect ops = true) (hf : Region.free md ops listed i = true) (hr : (Region.ready md ops listed).contains i = true) (hie : (i != e) = true)
    (hQ : ∀ c a w, Q (.panic c) (a.put oi.dst v) w → Q (.panic c) a w) (hy : YieldsIf P ops A oi v a)
    (h : Go_ P md ops Q e A B fuel (listed.setIfInBounds i true) (a.put oi.dst v) w) : Go_ P md ops Q e A B (fuel + 1) listed a w := fun hsh hT => by
  have hr' : i ∈ Region.ready md ops listed := by simpa using hr
  have hie' : i ≠ e := by simpa using hie
  exact wpAnyT_first hi (Region.noSelect_spec hs) hQ hie' (fun _ _ _ _ hT => hT.1) fuel listed a w hsh (getD_both' (mem_ready.1 hr').1) (Region.free_spec hi hf) hr' hy hT
    (h (hsh.next hr') ((Till.set hie').2 hT))

/-- Take number i first: it yields v in every world that meets A and B; number e waits for it. -/
theorem Go_.takeB {i : Nat} {oi : Oper} {v : Value} {fuel : Nat} {listed : Array Bool} {a : Act} {w : World} (hi : ops[i]? = some oi)
    (hs : Region.noSelect ops = true) (hf : Region.free md ops listed i = true) (hr : (Region.ready md ops listed).contains i = true) (hie : (i != e) = true) (hw : waitB md ops e i = true)
    (hQ : ∀ c a w, Q (.panic c) (a.put oi.dst v) w → Q (.panic c) a w) (hy : YieldsIf P ops (fun w => A w ∧ B w) oi v a)
    (h : Go_ P md ops Q e A B fuel (listed.setIfInBounds i true) (a.put oi.dst v) w) : Go_ P md ops Q e A B (fuel + 1) listed a w := fun hsh hT => by
  have hr' : i ∈ Region.ready md ops listed := by simpa using hr
  have hie' : i ≠ e := by simpa using hie
  exact wpAnyT_first hi (Region.noSelect_spec hs) hQ hie' (fun _ _ hs' hun hT => ⟨hT.1, hT.2 (waitB_spec hw hs' hun)⟩) fuel listed a w hsh (getD_both' (mem_ready.1 hr').1) (Region.free_spec hi hf) hr' hy hT
    (h (hsh.next hr') ((Till.set hie').2 hT))

/-- One operation alone may come up: it is carried out; behind it A (and B, while number e has not come up) is shown. -/
theorem Go_.step {i : Nat} {o : Oper} {fuel : Nat} {listed : Array Bool} {a : Act} {w : World} (hr : Region.ready md ops listed = [i]) (ho : ops[i]? = some o)
    (h : ∀ K : Act → World → Prop, Till e A B listed w → Shut (∀ a' w', Till e A B (listed.setIfInBounds i true) w' → Go_ P md ops Q e A B fuel (listed.setIfInBounds i true) a' w' → K a' w') →
      if Region.wanted o (yielded ops a.tmps) = true then Oper.wp P o a w K Q else K (a.put o.dst undef) w) : Go_ P md ops Q e A B (fuel + 1) listed a w := fun hsh hTill => by
  refine ⟨fun h0 => (by rw [hr] at h0; cases h0), fun j hj => ?_⟩
  have hjr := hj
  rw [hr] at hj
  obtain rfl : j = i := by simpa using hj
  exact wpOp_step ho (fun K hK => h K hTill (fun a' w' hT hG => hK a' w' ⟨hT, hG (hsh.next hjr) hT⟩))

theorem Go_.done {fuel : Nat} {listed : Array Bool} {a : Act} {w : World} (hr : Region.ready md ops listed = []) (h : Q .normal a w) : Go_ P md ops Q e A B fuel listed a w := fun _ _ => by
  cases fuel with
  | zero => exact ⟨hr, h⟩
  | succ f => exact ⟨fun _ => h, by rw [hr]; simp⟩

/-- behind number e nothing more is asked of B -/
theorem Till.late {listed : Array Bool} {w : World} (h : listed.getD e false = true) (hA : A w) : Till e A B listed w := ⟨hA, fun h0 => by rw [h] at h0; cases h0⟩
theorem Till.both {listed : Array Bool} {w : World} (hA : A w) (hB : B w) : Till e A B listed w := ⟨hA, fun _ => hB⟩

theorem wp_region_till (e : Nat) (A B : World → Prop) {id : Nat} {a : Act} {w : World} (hm : P.follows .mixedOrders = true) (hA : A w.drew) (hB : B w.drew)
    (h : Go_ P .any ops Q e A B ops.size (Array.replicate ops.size false) a w.drew) : (Code.region id ops true).wp P Q a w :=
  wp_region_any hm (wpAny_of_till _ _ _ _ (h (Shutd.start _) ⟨hA, fun _ => hB⟩))

end
end Go.Proofs.Ytcdklmicbbcknaa
