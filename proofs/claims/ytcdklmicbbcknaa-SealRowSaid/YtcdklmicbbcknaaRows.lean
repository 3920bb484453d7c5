/-
  No cell of these rows narrows 'for every input' (looked for: loops, veiled, ifaces, maps, wideKeys, modest, calm, conditions, laid).
  DERIVED. THE GIVEN ROWS OF THIS SEAT. 21 by the template 'for every input the law returns true; each argument reads behind the call as it read before'; 0 by the template 'total and deterministic' (their statements: YtcdklmicbbcknaaTotals.lean).
  GIVEN WITH THE SEED: the statements are not yours to turn. If you find one false, say at which input.
  Laid BY PROGRAM, IN A SANDBOX (cutbox-rows.mjs): the forced cells as the released guide's own fill.sh prints them over the translation e99f7d86e59a4d60… (all of the seat's roots in one cut). By AI agents, Wed Nov 11 2026. No macro, syntax, notation, axiom, sorry.
-/
import Derived.Test.YtcdklmicbbcknaaChecked
import GoSem.Claim
import GoSem.ClaimJoined
import GoSem.ClaimMapViews
import Derived.JoinedTies
import Derived.KernelRfl
namespace Go.Proofs.Ytcdklmicbbcknaa
/- THE CELL 'sum', in the pinned program and in every row, IS THE sha256 OF THE DUMP (.gsa) THAT YtcdklmicbbcknaaProg.lean LOADS. Nothing in Lean hashes anything: it is a label: what it is worth is what the hold of that sum in a sandbox is worth. -/
noncomputable def Try.pinned : Pinned := { name := "ytcdklmicbbcknaa", sum := "e99f7d86e59a4d607489f0e4257d27726a62eba0992a67bf2f96ad815045208e", checked := Try.checked }
namespace Rows
def none {H : Type} : Left H := { results := [], args := [] }

/-- 'steamerlaw15.TagAsks': WHATEVER THE INPUT: true; the input reads as it did. -/
def tagAsksSpec : ChangeSpec := { name := "tagAsks", fn := fun _ => fun
  | [d1, d2, d3, d4, d5] => { results := [.lit (.bool true)], args := [d1, d2, d3, d4, d5] }
  | _ => none }
def tagAsksRow : OpenClaim := { program := "ytcdklmicbbcknaa", sum := "e99f7d86e59a4d607489f0e4257d27726a62eba0992a67bf2f96ad815045208e", func := "steamer/steamerlaw15.TagAsks", spec := "tagAsks", apart := false }
def TagAsksSaid : Prop := tagAsksRow.holds Try.pinned (OpenSpec.ofChange tagAsksSpec)

/-- ITS FALSE NEIGHBOUR: 'it returns false'. Refute it at one input. -/
def tagAsksWrong : ChangeSpec := { name := "tagAsks", fn := fun _ => fun
  | [d1, d2, d3, d4, d5] => { results := [.lit (.bool false)], args := [d1, d2, d3, d4, d5] }
  | _ => none }
def TagAsksWrongFalsely : Prop := tagAsksRow.holds Try.pinned (OpenSpec.ofChange tagAsksWrong)

/-- 'steamerlaw15.TagTurned': WHATEVER THE INPUT: true; the input reads as it did. -/
def tagTurnedSpec : ChangeSpec := { name := "tagTurned", fn := fun _ => fun
  | [d1, d2, d3, d4, d5, d6, d7] => { results := [.lit (.bool true)], args := [d1, d2, d3, d4, d5, d6, d7] }
  | _ => none }
def tagTurnedRow : OpenClaim := { program := "ytcdklmicbbcknaa", sum := "e99f7d86e59a4d607489f0e4257d27726a62eba0992a67bf2f96ad815045208e", func := "steamer/steamerlaw15.TagTurned", spec := "tagTurned", apart := false }
def TagTurnedSaid : Prop := tagTurnedRow.holds Try.pinned (OpenSpec.ofChange tagTurnedSpec)

/-- ITS FALSE NEIGHBOUR: 'it returns false'. Refute it at one input. -/
def tagTurnedWrong : ChangeSpec := { name := "tagTurned", fn := fun _ => fun
  | [d1, d2, d3, d4, d5, d6, d7] => { results := [.lit (.bool false)], args := [d1, d2, d3, d4, d5, d6, d7] }
  | _ => none }
def TagTurnedWrongFalsely : Prop := tagTurnedRow.holds Try.pinned (OpenSpec.ofChange tagTurnedWrong)

/-- 'steamerlaw15.TagSames': WHATEVER THE INPUT: true; the input reads as it did. -/
def tagSamesSpec : ChangeSpec := { name := "tagSames", fn := fun _ => fun
  | [d1, d2, d3] => { results := [.lit (.bool true)], args := [d1, d2, d3] }
  | _ => none }
def tagSamesRow : OpenClaim := { program := "ytcdklmicbbcknaa", sum := "e99f7d86e59a4d607489f0e4257d27726a62eba0992a67bf2f96ad815045208e", func := "steamer/steamerlaw15.TagSames", spec := "tagSames", apart := false }
def TagSamesSaid : Prop := tagSamesRow.holds Try.pinned (OpenSpec.ofChange tagSamesSpec)

/-- ITS FALSE NEIGHBOUR: 'it returns false'. Refute it at one input. -/
def tagSamesWrong : ChangeSpec := { name := "tagSames", fn := fun _ => fun
  | [d1, d2, d3] => { results := [.lit (.bool false)], args := [d1, d2, d3] }
  | _ => none }
def TagSamesWrongFalsely : Prop := tagSamesRow.holds Try.pinned (OpenSpec.ofChange tagSamesWrong)

/-- 'steamerlaw15.TagLong': WHATEVER THE INPUT: true; the input reads as it did. -/
def tagLongSpec : ChangeSpec := { name := "tagLong", fn := fun _ => fun
  | [d1, d2, d3, d4] => { results := [.lit (.bool true)], args := [d1, d2, d3, d4] }
  | _ => none }
def tagLongRow : OpenClaim := { program := "ytcdklmicbbcknaa", sum := "e99f7d86e59a4d607489f0e4257d27726a62eba0992a67bf2f96ad815045208e", func := "steamer/steamerlaw15.TagLong", spec := "tagLong", apart := false }
def TagLongSaid : Prop := tagLongRow.holds Try.pinned (OpenSpec.ofChange tagLongSpec)

/-- ITS FALSE NEIGHBOUR: 'it returns false'. Refute it at one input. -/
def tagLongWrong : ChangeSpec := { name := "tagLong", fn := fun _ => fun
  | [d1, d2, d3, d4] => { results := [.lit (.bool false)], args := [d1, d2, d3, d4] }
  | _ => none }
def TagLongWrongFalsely : Prop := tagLongRow.holds Try.pinned (OpenSpec.ofChange tagLongWrong)

/-- 'steamerlaw15.TagPlaces': WHATEVER THE INPUT: true; the input reads as it did. -/
def tagPlacesSpec : ChangeSpec := { name := "tagPlaces", fn := fun _ => fun
  | [d1, d2, d3] => { results := [.lit (.bool true)], args := [d1, d2, d3] }
  | _ => none }
def tagPlacesRow : OpenClaim := { program := "ytcdklmicbbcknaa", sum := "e99f7d86e59a4d607489f0e4257d27726a62eba0992a67bf2f96ad815045208e", func := "steamer/steamerlaw15.TagPlaces", spec := "tagPlaces", apart := false }
def TagPlacesSaid : Prop := tagPlacesRow.holds Try.pinned (OpenSpec.ofChange tagPlacesSpec)

/-- ITS FALSE NEIGHBOUR: 'it returns false'. Refute it at one input. -/
def tagPlacesWrong : ChangeSpec := { name := "tagPlaces", fn := fun _ => fun
  | [d1, d2, d3] => { results := [.lit (.bool false)], args := [d1, d2, d3] }
  | _ => none }
def TagPlacesWrongFalsely : Prop := tagPlacesRow.holds Try.pinned (OpenSpec.ofChange tagPlacesWrong)

/-- 'steamerlaw9.NumBack': WHATEVER THE INPUT: true; the input reads as it did. -/
def numBackSpec : ChangeSpec := { name := "numBack", fn := fun _ => fun
  | [d1, d2, d3] => { results := [.lit (.bool true)], args := [d1, d2, d3] }
  | _ => none }
def numBackRow : OpenClaim := { program := "ytcdklmicbbcknaa", sum := "e99f7d86e59a4d607489f0e4257d27726a62eba0992a67bf2f96ad815045208e", func := "steamer/steamerlaw9.NumBack", spec := "numBack", apart := false }
def NumBackSaid : Prop := numBackRow.holds Try.pinned (OpenSpec.ofChange numBackSpec)

/-- ITS FALSE NEIGHBOUR: 'it returns false'. Refute it at one input. -/
def numBackWrong : ChangeSpec := { name := "numBack", fn := fun _ => fun
  | [d1, d2, d3] => { results := [.lit (.bool false)], args := [d1, d2, d3] }
  | _ => none }
def NumBackWrongFalsely : Prop := numBackRow.holds Try.pinned (OpenSpec.ofChange numBackWrong)

/-- 'steamerlaw9.NumOnce': WHATEVER THE INPUT: true; the input reads as it did. -/
def numOnceSpec : ChangeSpec := { name := "numOnce", fn := fun _ => fun
  | [d1, d2, d3] => { results := [.lit (.bool true)], args := [d1, d2, d3] }
  | _ => none }
def numOnceRow : OpenClaim := { program := "ytcdklmicbbcknaa", sum := "e99f7d86e59a4d607489f0e4257d27726a62eba0992a67bf2f96ad815045208e", func := "steamer/steamerlaw9.NumOnce", spec := "numOnce", apart := false }
def NumOnceSaid : Prop := numOnceRow.holds Try.pinned (OpenSpec.ofChange numOnceSpec)

/-- ITS FALSE NEIGHBOUR: 'it returns false'. Refute it at one input. -/
def numOnceWrong : ChangeSpec := { name := "numOnce", fn := fun _ => fun
  | [d1, d2, d3] => { results := [.lit (.bool false)], args := [d1, d2, d3] }
  | _ => none }
def NumOnceWrongFalsely : Prop := numOnceRow.holds Try.pinned (OpenSpec.ofChange numOnceWrong)

/-- 'steamerlaw9.NumTexts': WHATEVER THE INPUT: true; the input reads as it did. -/
def numTextsSpec : ChangeSpec := { name := "numTexts", fn := fun _ => fun
  | [d1, d2] => { results := [.lit (.bool true)], args := [d1, d2] }
  | _ => none }
def numTextsRow : OpenClaim := { program := "ytcdklmicbbcknaa", sum := "e99f7d86e59a4d607489f0e4257d27726a62eba0992a67bf2f96ad815045208e", func := "steamer/steamerlaw9.NumTexts", spec := "numTexts", apart := false }
def NumTextsSaid : Prop := numTextsRow.holds Try.pinned (OpenSpec.ofChange numTextsSpec)

/-- ITS FALSE NEIGHBOUR: 'it returns false'. Refute it at one input. -/
def numTextsWrong : ChangeSpec := { name := "numTexts", fn := fun _ => fun
  | [d1, d2] => { results := [.lit (.bool false)], args := [d1, d2] }
  | _ => none }
def NumTextsWrongFalsely : Prop := numTextsRow.holds Try.pinned (OpenSpec.ofChange numTextsWrong)

/-- 'steamerlaw16.KeyAsks': WHATEVER THE INPUT: true; the input reads as it did. -/
def keyAsksSpec : ChangeSpec := { name := "keyAsks", fn := fun _ => fun
  | [d1, d2, d3, d4] => { results := [.lit (.bool true)], args := [d1, d2, d3, d4] }
  | _ => none }
def keyAsksRow : OpenClaim := { program := "ytcdklmicbbcknaa", sum := "e99f7d86e59a4d607489f0e4257d27726a62eba0992a67bf2f96ad815045208e", func := "steamer/steamerlaw16.KeyAsks", spec := "keyAsks", apart := false }
def KeyAsksSaid : Prop := keyAsksRow.holds Try.pinned (OpenSpec.ofChange keyAsksSpec)

/-- ITS FALSE NEIGHBOUR: 'it returns false'. Refute it at one input. -/
def keyAsksWrong : ChangeSpec := { name := "keyAsks", fn := fun _ => fun
  | [d1, d2, d3, d4] => { results := [.lit (.bool false)], args := [d1, d2, d3, d4] }
  | _ => none }
def KeyAsksWrongFalsely : Prop := keyAsksRow.holds Try.pinned (OpenSpec.ofChange keyAsksWrong)

/-- 'steamerlaw16.KeyRounds': WHATEVER THE INPUT: true; the input reads as it did. -/
def keyRoundsSpec : ChangeSpec := { name := "keyRounds", fn := fun _ => fun
  | [d1, d2, d3] => { results := [.lit (.bool true)], args := [d1, d2, d3] }
  | _ => none }
def keyRoundsRow : OpenClaim := { program := "ytcdklmicbbcknaa", sum := "e99f7d86e59a4d607489f0e4257d27726a62eba0992a67bf2f96ad815045208e", func := "steamer/steamerlaw16.KeyRounds", spec := "keyRounds", apart := false }
def KeyRoundsSaid : Prop := keyRoundsRow.holds Try.pinned (OpenSpec.ofChange keyRoundsSpec)

/-- ITS FALSE NEIGHBOUR: 'it returns false'. Refute it at one input. -/
def keyRoundsWrong : ChangeSpec := { name := "keyRounds", fn := fun _ => fun
  | [d1, d2, d3] => { results := [.lit (.bool false)], args := [d1, d2, d3] }
  | _ => none }
def KeyRoundsWrongFalsely : Prop := keyRoundsRow.holds Try.pinned (OpenSpec.ofChange keyRoundsWrong)

/-- 'steamerlaw16.KeySalts': WHATEVER THE INPUT: true; the input reads as it did. -/
def keySaltsSpec : ChangeSpec := { name := "keySalts", fn := fun _ => fun
  | [d1, d2, d3, d4, d5] => { results := [.lit (.bool true)], args := [d1, d2, d3, d4, d5] }
  | _ => none }
def keySaltsRow : OpenClaim := { program := "ytcdklmicbbcknaa", sum := "e99f7d86e59a4d607489f0e4257d27726a62eba0992a67bf2f96ad815045208e", func := "steamer/steamerlaw16.KeySalts", spec := "keySalts", apart := false }
def KeySaltsSaid : Prop := keySaltsRow.holds Try.pinned (OpenSpec.ofChange keySaltsSpec)

/-- ITS FALSE NEIGHBOUR: 'it returns false'. Refute it at one input. -/
def keySaltsWrong : ChangeSpec := { name := "keySalts", fn := fun _ => fun
  | [d1, d2, d3, d4, d5] => { results := [.lit (.bool false)], args := [d1, d2, d3, d4, d5] }
  | _ => none }
def KeySaltsWrongFalsely : Prop := keySaltsRow.holds Try.pinned (OpenSpec.ofChange keySaltsWrong)

/-- 'steamerlaw16.KeyBounds': WHATEVER THE INPUT: true; the input reads as it did. -/
def keyBoundsSpec : ChangeSpec := { name := "keyBounds", fn := fun _ => fun
  | [d1, d2] => { results := [.lit (.bool true)], args := [d1, d2] }
  | _ => none }
def keyBoundsRow : OpenClaim := { program := "ytcdklmicbbcknaa", sum := "e99f7d86e59a4d607489f0e4257d27726a62eba0992a67bf2f96ad815045208e", func := "steamer/steamerlaw16.KeyBounds", spec := "keyBounds", apart := false }
def KeyBoundsSaid : Prop := keyBoundsRow.holds Try.pinned (OpenSpec.ofChange keyBoundsSpec)

/-- ITS FALSE NEIGHBOUR: 'it returns false'. Refute it at one input. -/
def keyBoundsWrong : ChangeSpec := { name := "keyBounds", fn := fun _ => fun
  | [d1, d2] => { results := [.lit (.bool false)], args := [d1, d2] }
  | _ => none }
def KeyBoundsWrongFalsely : Prop := keyBoundsRow.holds Try.pinned (OpenSpec.ofChange keyBoundsWrong)

/-- 'steamerlaw14.LaneQuarters': WHATEVER THE INPUT: true; the input reads as it did. -/
def laneQuartersSpec : ChangeSpec := { name := "laneQuarters", fn := fun _ => fun
  | [d1, d2, d3, d4, d5, d6] => { results := [.lit (.bool true)], args := [d1, d2, d3, d4, d5, d6] }
  | _ => none }
def laneQuartersRow : OpenClaim := { program := "ytcdklmicbbcknaa", sum := "e99f7d86e59a4d607489f0e4257d27726a62eba0992a67bf2f96ad815045208e", func := "steamer/steamerlaw14.LaneQuarters", spec := "laneQuarters", apart := false }
def LaneQuartersSaid : Prop := laneQuartersRow.holds Try.pinned (OpenSpec.ofChange laneQuartersSpec)

/-- ITS FALSE NEIGHBOUR: 'it returns false'. Refute it at one input. -/
def laneQuartersWrong : ChangeSpec := { name := "laneQuarters", fn := fun _ => fun
  | [d1, d2, d3, d4, d5, d6] => { results := [.lit (.bool false)], args := [d1, d2, d3, d4, d5, d6] }
  | _ => none }
def LaneQuartersWrongFalsely : Prop := laneQuartersRow.holds Try.pinned (OpenSpec.ofChange laneQuartersWrong)

/-- 'steamerlaw14.LaneAsks': WHATEVER THE INPUT: true; the input reads as it did. -/
def laneAsksSpec : ChangeSpec := { name := "laneAsks", fn := fun _ => fun
  | [d1, d2, d3, d4] => { results := [.lit (.bool true)], args := [d1, d2, d3, d4] }
  | _ => none }
def laneAsksRow : OpenClaim := { program := "ytcdklmicbbcknaa", sum := "e99f7d86e59a4d607489f0e4257d27726a62eba0992a67bf2f96ad815045208e", func := "steamer/steamerlaw14.LaneAsks", spec := "laneAsks", apart := false }
def LaneAsksSaid : Prop := laneAsksRow.holds Try.pinned (OpenSpec.ofChange laneAsksSpec)

/-- ITS FALSE NEIGHBOUR: 'it returns false'. Refute it at one input. -/
def laneAsksWrong : ChangeSpec := { name := "laneAsks", fn := fun _ => fun
  | [d1, d2, d3, d4] => { results := [.lit (.bool false)], args := [d1, d2, d3, d4] }
  | _ => none }
def LaneAsksWrongFalsely : Prop := laneAsksRow.holds Try.pinned (OpenSpec.ofChange laneAsksWrong)

/-- 'steamerlaw14.LaneBack': WHATEVER THE INPUT: true; the input reads as it did. -/
def laneBackSpec : ChangeSpec := { name := "laneBack", fn := fun _ => fun
  | [d1, d2, d3] => { results := [.lit (.bool true)], args := [d1, d2, d3] }
  | _ => none }
def laneBackRow : OpenClaim := { program := "ytcdklmicbbcknaa", sum := "e99f7d86e59a4d607489f0e4257d27726a62eba0992a67bf2f96ad815045208e", func := "steamer/steamerlaw14.LaneBack", spec := "laneBack", apart := false }
def LaneBackSaid : Prop := laneBackRow.holds Try.pinned (OpenSpec.ofChange laneBackSpec)

/-- ITS FALSE NEIGHBOUR: 'it returns false'. Refute it at one input. -/
def laneBackWrong : ChangeSpec := { name := "laneBack", fn := fun _ => fun
  | [d1, d2, d3] => { results := [.lit (.bool false)], args := [d1, d2, d3] }
  | _ => none }
def LaneBackWrongFalsely : Prop := laneBackRow.holds Try.pinned (OpenSpec.ofChange laneBackWrong)

/-- 'steamerlaw14.LaneParts': WHATEVER THE INPUT: true; the input reads as it did. -/
def lanePartsSpec : ChangeSpec := { name := "laneParts", fn := fun _ => fun
  | [d1, d2, d3, d4] => { results := [.lit (.bool true)], args := [d1, d2, d3, d4] }
  | _ => none }
def lanePartsRow : OpenClaim := { program := "ytcdklmicbbcknaa", sum := "e99f7d86e59a4d607489f0e4257d27726a62eba0992a67bf2f96ad815045208e", func := "steamer/steamerlaw14.LaneParts", spec := "laneParts", apart := false }
def LanePartsSaid : Prop := lanePartsRow.holds Try.pinned (OpenSpec.ofChange lanePartsSpec)

/-- ITS FALSE NEIGHBOUR: 'it returns false'. Refute it at one input. -/
def lanePartsWrong : ChangeSpec := { name := "laneParts", fn := fun _ => fun
  | [d1, d2, d3, d4] => { results := [.lit (.bool false)], args := [d1, d2, d3, d4] }
  | _ => none }
def LanePartsWrongFalsely : Prop := lanePartsRow.holds Try.pinned (OpenSpec.ofChange lanePartsWrong)

/-- 'steamerlaw14.LaneKeys': WHATEVER THE INPUT: true; the input reads as it did. -/
def laneKeysSpec : ChangeSpec := { name := "laneKeys", fn := fun _ => fun
  | [d1, d2, d3, d4, d5] => { results := [.lit (.bool true)], args := [d1, d2, d3, d4, d5] }
  | _ => none }
def laneKeysRow : OpenClaim := { program := "ytcdklmicbbcknaa", sum := "e99f7d86e59a4d607489f0e4257d27726a62eba0992a67bf2f96ad815045208e", func := "steamer/steamerlaw14.LaneKeys", spec := "laneKeys", apart := false }
def LaneKeysSaid : Prop := laneKeysRow.holds Try.pinned (OpenSpec.ofChange laneKeysSpec)

/-- ITS FALSE NEIGHBOUR: 'it returns false'. Refute it at one input. -/
def laneKeysWrong : ChangeSpec := { name := "laneKeys", fn := fun _ => fun
  | [d1, d2, d3, d4, d5] => { results := [.lit (.bool false)], args := [d1, d2, d3, d4, d5] }
  | _ => none }
def LaneKeysWrongFalsely : Prop := laneKeysRow.holds Try.pinned (OpenSpec.ofChange laneKeysWrong)

/-- 'steamerlaw17.SealRow': WHATEVER THE INPUT: true; the input reads as it did. -/
def sealRowSpec : ChangeSpec := { name := "sealRow", fn := fun _ => fun
  | [d1, d2, d3, d4, d5] => { results := [.lit (.bool true)], args := [d1, d2, d3, d4, d5] }
  | _ => none }
def sealRowRow : OpenClaim := { program := "ytcdklmicbbcknaa", sum := "e99f7d86e59a4d607489f0e4257d27726a62eba0992a67bf2f96ad815045208e", func := "steamer/steamerlaw17.SealRow", spec := "sealRow", apart := false }
def SealRowSaid : Prop := sealRowRow.holds Try.pinned (OpenSpec.ofChange sealRowSpec)

/-- ITS FALSE NEIGHBOUR: 'it returns false'. Refute it at one input. -/
def sealRowWrong : ChangeSpec := { name := "sealRow", fn := fun _ => fun
  | [d1, d2, d3, d4, d5] => { results := [.lit (.bool false)], args := [d1, d2, d3, d4, d5] }
  | _ => none }
def SealRowWrongFalsely : Prop := sealRowRow.holds Try.pinned (OpenSpec.ofChange sealRowWrong)

/-- 'steamerlaw17.SealOrders': WHATEVER THE INPUT: true; the input reads as it did. -/
def sealOrdersSpec : ChangeSpec := { name := "sealOrders", fn := fun _ => fun
  | [d1, d2, d3, d4] => { results := [.lit (.bool true)], args := [d1, d2, d3, d4] }
  | _ => none }
def sealOrdersRow : OpenClaim := { program := "ytcdklmicbbcknaa", sum := "e99f7d86e59a4d607489f0e4257d27726a62eba0992a67bf2f96ad815045208e", func := "steamer/steamerlaw17.SealOrders", spec := "sealOrders", apart := false }
def SealOrdersSaid : Prop := sealOrdersRow.holds Try.pinned (OpenSpec.ofChange sealOrdersSpec)

/-- ITS FALSE NEIGHBOUR: 'it returns false'. Refute it at one input. -/
def sealOrdersWrong : ChangeSpec := { name := "sealOrders", fn := fun _ => fun
  | [d1, d2, d3, d4] => { results := [.lit (.bool false)], args := [d1, d2, d3, d4] }
  | _ => none }
def SealOrdersWrongFalsely : Prop := sealOrdersRow.holds Try.pinned (OpenSpec.ofChange sealOrdersWrong)

/-- 'steamerlaw17.SealBack': WHATEVER THE INPUT: true; the input reads as it did. -/
def sealBackSpec : ChangeSpec := { name := "sealBack", fn := fun _ => fun
  | [d1, d2, d3, d4, d5] => { results := [.lit (.bool true)], args := [d1, d2, d3, d4, d5] }
  | _ => none }
def sealBackRow : OpenClaim := { program := "ytcdklmicbbcknaa", sum := "e99f7d86e59a4d607489f0e4257d27726a62eba0992a67bf2f96ad815045208e", func := "steamer/steamerlaw17.SealBack", spec := "sealBack", apart := false }
def SealBackSaid : Prop := sealBackRow.holds Try.pinned (OpenSpec.ofChange sealBackSpec)

/-- ITS FALSE NEIGHBOUR: 'it returns false'. Refute it at one input. -/
def sealBackWrong : ChangeSpec := { name := "sealBack", fn := fun _ => fun
  | [d1, d2, d3, d4, d5] => { results := [.lit (.bool false)], args := [d1, d2, d3, d4, d5] }
  | _ => none }
def SealBackWrongFalsely : Prop := sealBackRow.holds Try.pinned (OpenSpec.ofChange sealBackWrong)

/-- 'steamerlaw17.SealBounds': WHATEVER THE INPUT: true; the input reads as it did. -/
def sealBoundsSpec : ChangeSpec := { name := "sealBounds", fn := fun _ => fun
  | [d1, d2, d3] => { results := [.lit (.bool true)], args := [d1, d2, d3] }
  | _ => none }
def sealBoundsRow : OpenClaim := { program := "ytcdklmicbbcknaa", sum := "e99f7d86e59a4d607489f0e4257d27726a62eba0992a67bf2f96ad815045208e", func := "steamer/steamerlaw17.SealBounds", spec := "sealBounds", apart := false }
def SealBoundsSaid : Prop := sealBoundsRow.holds Try.pinned (OpenSpec.ofChange sealBoundsSpec)

/-- ITS FALSE NEIGHBOUR: 'it returns false'. Refute it at one input. -/
def sealBoundsWrong : ChangeSpec := { name := "sealBounds", fn := fun _ => fun
  | [d1, d2, d3] => { results := [.lit (.bool false)], args := [d1, d2, d3] }
  | _ => none }
def SealBoundsWrongFalsely : Prop := sealBoundsRow.holds Try.pinned (OpenSpec.ofChange sealBoundsWrong)

/- THE SECOND FORM. 'bulk': how many values and letters a reading holds, each counted each time it is reached (what is shared counts as often as it is met; a slice's spare places count too). A statement '..UptoSaid' is the law's where the arguments, and the package variables that the reading takes, are together of bulk at most 1048576: NARROWER than '..Said'. Prove '..Said' where nothing that the law and all that it calls make is longer than what came in: it says more and counts as full. Else prove '..UptoSaid'. A law counts once. -/
mutual
def uptoBulk {H : Type} : DataW H → Nat
  | .lit (.string bytes) => bytes.length + 1
  | .lit _ => 1
  | .nil => 1
  | .ptr d => uptoBulk d + 1
  | .slice elems spare => uptoBulkAll elems + uptoBulkAll spare + 1
  | .agg parts => uptoBulkAll parts + 1
  | .iface _ d => uptoBulk d + 1
  | .map entries => uptoBulkEntries entries + 1
  | .held _ => 1
def uptoBulkAll {H : Type} : List (DataW H) → Nat
  | [] => 0
  | d :: r => uptoBulk d + uptoBulkAll r
def uptoBulkEntries {H : Type} : List (Lit × DataW H) → Nat
  | [] => 0
  | x :: r => uptoBulkEntry x + uptoBulkEntries r
def uptoBulkEntry {H : Type} : Lit × DataW H → Nat
  | (.string bytes, d) => bytes.length + uptoBulk d + 1
  | (_, d) => uptoBulk d + 1
 end
def uptoSmall : (H : Type) → List (DataW H) → Bool := fun _ ds => decide (uptoBulkAll ds ≤ 1048576)
def OpenSpec.upto (s : _root_.Go.ChangeSpec) : _root_.Go.OpenSpec := { _root_.Go.OpenSpec.ofChange s with cond := some uptoSmall }

/-- 'steamerlaw15.TagAsks', WHERE WHAT IT READS IS OF BULK AT MOST 1048576: true; the input reads as it did. -/
def tagAsksUptoRow : OpenClaim := { program := "ytcdklmicbbcknaa", sum := "e99f7d86e59a4d607489f0e4257d27726a62eba0992a67bf2f96ad815045208e", func := "steamer/steamerlaw15.TagAsks", spec := "tagAsks", apart := false, narrowed := true }
def TagAsksUptoSaid : Prop := tagAsksUptoRow.holds Try.pinned (OpenSpec.upto tagAsksSpec)

/-- 'steamerlaw15.TagTurned', WHERE WHAT IT READS IS OF BULK AT MOST 1048576: true; the input reads as it did. -/
def tagTurnedUptoRow : OpenClaim := { program := "ytcdklmicbbcknaa", sum := "e99f7d86e59a4d607489f0e4257d27726a62eba0992a67bf2f96ad815045208e", func := "steamer/steamerlaw15.TagTurned", spec := "tagTurned", apart := false, narrowed := true }
def TagTurnedUptoSaid : Prop := tagTurnedUptoRow.holds Try.pinned (OpenSpec.upto tagTurnedSpec)

/-- 'steamerlaw15.TagSames', WHERE WHAT IT READS IS OF BULK AT MOST 1048576: true; the input reads as it did. -/
def tagSamesUptoRow : OpenClaim := { program := "ytcdklmicbbcknaa", sum := "e99f7d86e59a4d607489f0e4257d27726a62eba0992a67bf2f96ad815045208e", func := "steamer/steamerlaw15.TagSames", spec := "tagSames", apart := false, narrowed := true }
def TagSamesUptoSaid : Prop := tagSamesUptoRow.holds Try.pinned (OpenSpec.upto tagSamesSpec)

/-- 'steamerlaw15.TagLong', WHERE WHAT IT READS IS OF BULK AT MOST 1048576: true; the input reads as it did. -/
def tagLongUptoRow : OpenClaim := { program := "ytcdklmicbbcknaa", sum := "e99f7d86e59a4d607489f0e4257d27726a62eba0992a67bf2f96ad815045208e", func := "steamer/steamerlaw15.TagLong", spec := "tagLong", apart := false, narrowed := true }
def TagLongUptoSaid : Prop := tagLongUptoRow.holds Try.pinned (OpenSpec.upto tagLongSpec)

/-- 'steamerlaw15.TagPlaces', WHERE WHAT IT READS IS OF BULK AT MOST 1048576: true; the input reads as it did. -/
def tagPlacesUptoRow : OpenClaim := { program := "ytcdklmicbbcknaa", sum := "e99f7d86e59a4d607489f0e4257d27726a62eba0992a67bf2f96ad815045208e", func := "steamer/steamerlaw15.TagPlaces", spec := "tagPlaces", apart := false, narrowed := true }
def TagPlacesUptoSaid : Prop := tagPlacesUptoRow.holds Try.pinned (OpenSpec.upto tagPlacesSpec)

/-- 'steamerlaw9.NumBack', WHERE WHAT IT READS IS OF BULK AT MOST 1048576: true; the input reads as it did. -/
def numBackUptoRow : OpenClaim := { program := "ytcdklmicbbcknaa", sum := "e99f7d86e59a4d607489f0e4257d27726a62eba0992a67bf2f96ad815045208e", func := "steamer/steamerlaw9.NumBack", spec := "numBack", apart := false, narrowed := true }
def NumBackUptoSaid : Prop := numBackUptoRow.holds Try.pinned (OpenSpec.upto numBackSpec)

/-- 'steamerlaw9.NumOnce', WHERE WHAT IT READS IS OF BULK AT MOST 1048576: true; the input reads as it did. -/
def numOnceUptoRow : OpenClaim := { program := "ytcdklmicbbcknaa", sum := "e99f7d86e59a4d607489f0e4257d27726a62eba0992a67bf2f96ad815045208e", func := "steamer/steamerlaw9.NumOnce", spec := "numOnce", apart := false, narrowed := true }
def NumOnceUptoSaid : Prop := numOnceUptoRow.holds Try.pinned (OpenSpec.upto numOnceSpec)

/-- 'steamerlaw9.NumTexts', WHERE WHAT IT READS IS OF BULK AT MOST 1048576: true; the input reads as it did. -/
def numTextsUptoRow : OpenClaim := { program := "ytcdklmicbbcknaa", sum := "e99f7d86e59a4d607489f0e4257d27726a62eba0992a67bf2f96ad815045208e", func := "steamer/steamerlaw9.NumTexts", spec := "numTexts", apart := false, narrowed := true }
def NumTextsUptoSaid : Prop := numTextsUptoRow.holds Try.pinned (OpenSpec.upto numTextsSpec)

/-- 'steamerlaw16.KeyAsks', WHERE WHAT IT READS IS OF BULK AT MOST 1048576: true; the input reads as it did. -/
def keyAsksUptoRow : OpenClaim := { program := "ytcdklmicbbcknaa", sum := "e99f7d86e59a4d607489f0e4257d27726a62eba0992a67bf2f96ad815045208e", func := "steamer/steamerlaw16.KeyAsks", spec := "keyAsks", apart := false, narrowed := true }
def KeyAsksUptoSaid : Prop := keyAsksUptoRow.holds Try.pinned (OpenSpec.upto keyAsksSpec)

/-- 'steamerlaw16.KeyRounds', WHERE WHAT IT READS IS OF BULK AT MOST 1048576: true; the input reads as it did. -/
def keyRoundsUptoRow : OpenClaim := { program := "ytcdklmicbbcknaa", sum := "e99f7d86e59a4d607489f0e4257d27726a62eba0992a67bf2f96ad815045208e", func := "steamer/steamerlaw16.KeyRounds", spec := "keyRounds", apart := false, narrowed := true }
def KeyRoundsUptoSaid : Prop := keyRoundsUptoRow.holds Try.pinned (OpenSpec.upto keyRoundsSpec)

/-- 'steamerlaw16.KeySalts', WHERE WHAT IT READS IS OF BULK AT MOST 1048576: true; the input reads as it did. -/
def keySaltsUptoRow : OpenClaim := { program := "ytcdklmicbbcknaa", sum := "e99f7d86e59a4d607489f0e4257d27726a62eba0992a67bf2f96ad815045208e", func := "steamer/steamerlaw16.KeySalts", spec := "keySalts", apart := false, narrowed := true }
def KeySaltsUptoSaid : Prop := keySaltsUptoRow.holds Try.pinned (OpenSpec.upto keySaltsSpec)

/-- 'steamerlaw16.KeyBounds', WHERE WHAT IT READS IS OF BULK AT MOST 1048576: true; the input reads as it did. -/
def keyBoundsUptoRow : OpenClaim := { program := "ytcdklmicbbcknaa", sum := "e99f7d86e59a4d607489f0e4257d27726a62eba0992a67bf2f96ad815045208e", func := "steamer/steamerlaw16.KeyBounds", spec := "keyBounds", apart := false, narrowed := true }
def KeyBoundsUptoSaid : Prop := keyBoundsUptoRow.holds Try.pinned (OpenSpec.upto keyBoundsSpec)

/-- 'steamerlaw14.LaneQuarters', WHERE WHAT IT READS IS OF BULK AT MOST 1048576: true; the input reads as it did. -/
def laneQuartersUptoRow : OpenClaim := { program := "ytcdklmicbbcknaa", sum := "e99f7d86e59a4d607489f0e4257d27726a62eba0992a67bf2f96ad815045208e", func := "steamer/steamerlaw14.LaneQuarters", spec := "laneQuarters", apart := false, narrowed := true }
def LaneQuartersUptoSaid : Prop := laneQuartersUptoRow.holds Try.pinned (OpenSpec.upto laneQuartersSpec)

/-- 'steamerlaw14.LaneAsks', WHERE WHAT IT READS IS OF BULK AT MOST 1048576: true; the input reads as it did. -/
def laneAsksUptoRow : OpenClaim := { program := "ytcdklmicbbcknaa", sum := "e99f7d86e59a4d607489f0e4257d27726a62eba0992a67bf2f96ad815045208e", func := "steamer/steamerlaw14.LaneAsks", spec := "laneAsks", apart := false, narrowed := true }
def LaneAsksUptoSaid : Prop := laneAsksUptoRow.holds Try.pinned (OpenSpec.upto laneAsksSpec)

/-- 'steamerlaw14.LaneBack', WHERE WHAT IT READS IS OF BULK AT MOST 1048576: true; the input reads as it did. -/
def laneBackUptoRow : OpenClaim := { program := "ytcdklmicbbcknaa", sum := "e99f7d86e59a4d607489f0e4257d27726a62eba0992a67bf2f96ad815045208e", func := "steamer/steamerlaw14.LaneBack", spec := "laneBack", apart := false, narrowed := true }
def LaneBackUptoSaid : Prop := laneBackUptoRow.holds Try.pinned (OpenSpec.upto laneBackSpec)

/-- 'steamerlaw14.LaneParts', WHERE WHAT IT READS IS OF BULK AT MOST 1048576: true; the input reads as it did. -/
def lanePartsUptoRow : OpenClaim := { program := "ytcdklmicbbcknaa", sum := "e99f7d86e59a4d607489f0e4257d27726a62eba0992a67bf2f96ad815045208e", func := "steamer/steamerlaw14.LaneParts", spec := "laneParts", apart := false, narrowed := true }
def LanePartsUptoSaid : Prop := lanePartsUptoRow.holds Try.pinned (OpenSpec.upto lanePartsSpec)

/-- 'steamerlaw14.LaneKeys', WHERE WHAT IT READS IS OF BULK AT MOST 1048576: true; the input reads as it did. -/
def laneKeysUptoRow : OpenClaim := { program := "ytcdklmicbbcknaa", sum := "e99f7d86e59a4d607489f0e4257d27726a62eba0992a67bf2f96ad815045208e", func := "steamer/steamerlaw14.LaneKeys", spec := "laneKeys", apart := false, narrowed := true }
def LaneKeysUptoSaid : Prop := laneKeysUptoRow.holds Try.pinned (OpenSpec.upto laneKeysSpec)

/-- 'steamerlaw17.SealRow', WHERE WHAT IT READS IS OF BULK AT MOST 1048576: true; the input reads as it did. -/
def sealRowUptoRow : OpenClaim := { program := "ytcdklmicbbcknaa", sum := "e99f7d86e59a4d607489f0e4257d27726a62eba0992a67bf2f96ad815045208e", func := "steamer/steamerlaw17.SealRow", spec := "sealRow", apart := false, narrowed := true }
def SealRowUptoSaid : Prop := sealRowUptoRow.holds Try.pinned (OpenSpec.upto sealRowSpec)

/-- 'steamerlaw17.SealOrders', WHERE WHAT IT READS IS OF BULK AT MOST 1048576: true; the input reads as it did. -/
def sealOrdersUptoRow : OpenClaim := { program := "ytcdklmicbbcknaa", sum := "e99f7d86e59a4d607489f0e4257d27726a62eba0992a67bf2f96ad815045208e", func := "steamer/steamerlaw17.SealOrders", spec := "sealOrders", apart := false, narrowed := true }
def SealOrdersUptoSaid : Prop := sealOrdersUptoRow.holds Try.pinned (OpenSpec.upto sealOrdersSpec)

/-- 'steamerlaw17.SealBack', WHERE WHAT IT READS IS OF BULK AT MOST 1048576: true; the input reads as it did. -/
def sealBackUptoRow : OpenClaim := { program := "ytcdklmicbbcknaa", sum := "e99f7d86e59a4d607489f0e4257d27726a62eba0992a67bf2f96ad815045208e", func := "steamer/steamerlaw17.SealBack", spec := "sealBack", apart := false, narrowed := true }
def SealBackUptoSaid : Prop := sealBackUptoRow.holds Try.pinned (OpenSpec.upto sealBackSpec)

/-- 'steamerlaw17.SealBounds', WHERE WHAT IT READS IS OF BULK AT MOST 1048576: true; the input reads as it did. -/
def sealBoundsUptoRow : OpenClaim := { program := "ytcdklmicbbcknaa", sum := "e99f7d86e59a4d607489f0e4257d27726a62eba0992a67bf2f96ad815045208e", func := "steamer/steamerlaw17.SealBounds", spec := "sealBounds", apart := false, narrowed := true }
def SealBoundsUptoSaid : Prop := sealBoundsUptoRow.holds Try.pinned (OpenSpec.upto sealBoundsSpec)

end Rows
end Go.Proofs.Ytcdklmicbbcknaa
