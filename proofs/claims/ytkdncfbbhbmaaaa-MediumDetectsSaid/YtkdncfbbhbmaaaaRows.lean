/-
  No cell of these rows narrows 'for every input' (looked for: loops, veiled, ifaces, maps, wideKeys, modest, calm, conditions, laid).
  DERIVED. THE GIVEN ROWS OF THIS SEAT. 18 by the template 'for every input the law returns true; each argument reads behind the call as it read before'; 0 by the template 'total and deterministic' (their statements: YtkdncfbbhbmaaaaTotals.lean).
  GIVEN WITH THE SEED: the statements are not yours to turn. If you find one false, say at which input.
  Laid BY PROGRAM, IN A SANDBOX (cutbox-rows.mjs): the forced cells as the released guide's own fill.sh prints them over the translation 3b59e60f793f08f7… (all of the seat's roots in one cut). By AI agents, Wed Nov 11 2026. No macro, syntax, notation, axiom, sorry.
-/
import Derived.Test.YtkdncfbbhbmaaaaChecked
import GoSem.Claim
import GoSem.ClaimJoined
import GoSem.ClaimMapViews
import Derived.JoinedTies
import Derived.KernelRfl
namespace Go.Proofs.Ytkdncfbbhbmaaaa
/- THE CELL 'sum', in the pinned program and in every row, IS THE sha256 OF THE DUMP (.gsa) THAT YtkdncfbbhbmaaaaProg.lean LOADS. Nothing in Lean hashes anything: it is a label: what it is worth is what the hold of that sum in a sandbox is worth. -/
noncomputable def Try.pinned : Pinned := { name := "ytkdncfbbhbmaaaa", sum := "3b59e60f793f08f79ce6a45b47501c985b2d4c7262b7eb58fad7ab70e4e229b0", checked := Try.checked }
namespace Rows
def none {H : Type} : Left H := { results := [], args := [] }

/-- 'patchbaykeep1.CrcShifts': WHATEVER THE INPUT: true; the input reads as it did. -/
def crcShiftsSpec : ChangeSpec := { name := "crcShifts", fn := fun _ => fun
  | [d1, d2, d3, d4] => { results := [.lit (.bool true)], args := [d1, d2, d3, d4] }
  | _ => none }
def crcShiftsRow : OpenClaim := { program := "ytkdncfbbhbmaaaa", sum := "3b59e60f793f08f79ce6a45b47501c985b2d4c7262b7eb58fad7ab70e4e229b0", func := "patchbay/patchbaykeep1.CrcShifts", spec := "crcShifts", apart := false }
def CrcShiftsSaid : Prop := crcShiftsRow.holds Try.pinned (OpenSpec.ofChange crcShiftsSpec)

/-- ITS FALSE NEIGHBOUR: 'it returns false'. Refute it at one input. -/
def crcShiftsWrong : ChangeSpec := { name := "crcShifts", fn := fun _ => fun
  | [d1, d2, d3, d4] => { results := [.lit (.bool false)], args := [d1, d2, d3, d4] }
  | _ => none }
def CrcShiftsWrongFalsely : Prop := crcShiftsRow.holds Try.pinned (OpenSpec.ofChange crcShiftsWrong)

/-- 'patchbaykeep1.FecDistance': WHATEVER THE INPUT: true; the input reads as it did. -/
def fecDistanceSpec : ChangeSpec := { name := "fecDistance", fn := fun _ => fun
  | [d1, d2] => { results := [.lit (.bool true)], args := [d1, d2] }
  | _ => none }
def fecDistanceRow : OpenClaim := { program := "ytkdncfbbhbmaaaa", sum := "3b59e60f793f08f79ce6a45b47501c985b2d4c7262b7eb58fad7ab70e4e229b0", func := "patchbay/patchbaykeep1.FecDistance", spec := "fecDistance", apart := false }
def FecDistanceSaid : Prop := fecDistanceRow.holds Try.pinned (OpenSpec.ofChange fecDistanceSpec)

/-- ITS FALSE NEIGHBOUR: 'it returns false'. Refute it at one input. -/
def fecDistanceWrong : ChangeSpec := { name := "fecDistance", fn := fun _ => fun
  | [d1, d2] => { results := [.lit (.bool false)], args := [d1, d2] }
  | _ => none }
def FecDistanceWrongFalsely : Prop := fecDistanceRow.holds Try.pinned (OpenSpec.ofChange fecDistanceWrong)

/-- 'patchbaykeep1.FecFixes': WHATEVER THE INPUT: true; the input reads as it did. -/
def fecFixesSpec : ChangeSpec := { name := "fecFixes", fn := fun _ => fun
  | [d1, d2] => { results := [.lit (.bool true)], args := [d1, d2] }
  | _ => none }
def fecFixesRow : OpenClaim := { program := "ytkdncfbbhbmaaaa", sum := "3b59e60f793f08f79ce6a45b47501c985b2d4c7262b7eb58fad7ab70e4e229b0", func := "patchbay/patchbaykeep1.FecFixes", spec := "fecFixes", apart := false }
def FecFixesSaid : Prop := fecFixesRow.holds Try.pinned (OpenSpec.ofChange fecFixesSpec)

/-- ITS FALSE NEIGHBOUR: 'it returns false'. Refute it at one input. -/
def fecFixesWrong : ChangeSpec := { name := "fecFixes", fn := fun _ => fun
  | [d1, d2] => { results := [.lit (.bool false)], args := [d1, d2] }
  | _ => none }
def FecFixesWrongFalsely : Prop := fecFixesRow.holds Try.pinned (OpenSpec.ofChange fecFixesWrong)

/-- 'patchbaykeep1.FrameUnlike': WHATEVER THE INPUT: true; the input reads as it did. -/
def frameUnlikeSpec : ChangeSpec := { name := "frameUnlike", fn := fun _ => fun
  | [d1, d2] => { results := [.lit (.bool true)], args := [d1, d2] }
  | _ => none }
def frameUnlikeRow : OpenClaim := { program := "ytkdncfbbhbmaaaa", sum := "3b59e60f793f08f79ce6a45b47501c985b2d4c7262b7eb58fad7ab70e4e229b0", func := "patchbay/patchbaykeep1.FrameUnlike", spec := "frameUnlike", apart := false }
def FrameUnlikeSaid : Prop := frameUnlikeRow.holds Try.pinned (OpenSpec.ofChange frameUnlikeSpec)

/-- ITS FALSE NEIGHBOUR: 'it returns false'. Refute it at one input. -/
def frameUnlikeWrong : ChangeSpec := { name := "frameUnlike", fn := fun _ => fun
  | [d1, d2] => { results := [.lit (.bool false)], args := [d1, d2] }
  | _ => none }
def FrameUnlikeWrongFalsely : Prop := frameUnlikeRow.holds Try.pinned (OpenSpec.ofChange frameUnlikeWrong)

/-- 'patchbaykeep1.MediumAlone': WHATEVER THE INPUT: true; the input reads as it did. -/
def mediumAloneSpec : ChangeSpec := { name := "mediumAlone", fn := fun _ => fun
  | [d1, d2] => { results := [.lit (.bool true)], args := [d1, d2] }
  | _ => none }
def mediumAloneRow : OpenClaim := { program := "ytkdncfbbhbmaaaa", sum := "3b59e60f793f08f79ce6a45b47501c985b2d4c7262b7eb58fad7ab70e4e229b0", func := "patchbay/patchbaykeep1.MediumAlone", spec := "mediumAlone", apart := false }
def MediumAloneSaid : Prop := mediumAloneRow.holds Try.pinned (OpenSpec.ofChange mediumAloneSpec)

/-- ITS FALSE NEIGHBOUR: 'it returns false'. Refute it at one input. -/
def mediumAloneWrong : ChangeSpec := { name := "mediumAlone", fn := fun _ => fun
  | [d1, d2] => { results := [.lit (.bool false)], args := [d1, d2] }
  | _ => none }
def MediumAloneWrongFalsely : Prop := mediumAloneRow.holds Try.pinned (OpenSpec.ofChange mediumAloneWrong)

/-- 'patchbaykeep1.BackoffDoubles': WHATEVER THE INPUT: true; the input reads as it did. -/
def backoffDoublesSpec : ChangeSpec := { name := "backoffDoubles", fn := fun _ => fun
  | [d1, d2] => { results := [.lit (.bool true)], args := [d1, d2] }
  | _ => none }
def backoffDoublesRow : OpenClaim := { program := "ytkdncfbbhbmaaaa", sum := "3b59e60f793f08f79ce6a45b47501c985b2d4c7262b7eb58fad7ab70e4e229b0", func := "patchbay/patchbaykeep1.BackoffDoubles", spec := "backoffDoubles", apart := false }
def BackoffDoublesSaid : Prop := backoffDoublesRow.holds Try.pinned (OpenSpec.ofChange backoffDoublesSpec)

/-- ITS FALSE NEIGHBOUR: 'it returns false'. Refute it at one input. -/
def backoffDoublesWrong : ChangeSpec := { name := "backoffDoubles", fn := fun _ => fun
  | [d1, d2] => { results := [.lit (.bool false)], args := [d1, d2] }
  | _ => none }
def BackoffDoublesWrongFalsely : Prop := backoffDoublesRow.holds Try.pinned (OpenSpec.ofChange backoffDoublesWrong)

/-- 'patchbaykeep1.TagReturns': WHATEVER THE INPUT: true; the input reads as it did. -/
def tagReturnsSpec : ChangeSpec := { name := "tagReturns", fn := fun _ => fun
  | [d1, d2] => { results := [.lit (.bool true)], args := [d1, d2] }
  | _ => none }
def tagReturnsRow : OpenClaim := { program := "ytkdncfbbhbmaaaa", sum := "3b59e60f793f08f79ce6a45b47501c985b2d4c7262b7eb58fad7ab70e4e229b0", func := "patchbay/patchbaykeep1.TagReturns", spec := "tagReturns", apart := false }
def TagReturnsSaid : Prop := tagReturnsRow.holds Try.pinned (OpenSpec.ofChange tagReturnsSpec)

/-- ITS FALSE NEIGHBOUR: 'it returns false'. Refute it at one input. -/
def tagReturnsWrong : ChangeSpec := { name := "tagReturns", fn := fun _ => fun
  | [d1, d2] => { results := [.lit (.bool false)], args := [d1, d2] }
  | _ => none }
def TagReturnsWrongFalsely : Prop := tagReturnsRow.holds Try.pinned (OpenSpec.ofChange tagReturnsWrong)

/-- 'patchbaykeep1.TagSeparates': WHATEVER THE INPUT: true; the input reads as it did. -/
def tagSeparatesSpec : ChangeSpec := { name := "tagSeparates", fn := fun _ => fun
  | [d1, d2, d3] => { results := [.lit (.bool true)], args := [d1, d2, d3] }
  | _ => none }
def tagSeparatesRow : OpenClaim := { program := "ytkdncfbbhbmaaaa", sum := "3b59e60f793f08f79ce6a45b47501c985b2d4c7262b7eb58fad7ab70e4e229b0", func := "patchbay/patchbaykeep1.TagSeparates", spec := "tagSeparates", apart := false }
def TagSeparatesSaid : Prop := tagSeparatesRow.holds Try.pinned (OpenSpec.ofChange tagSeparatesSpec)

/-- ITS FALSE NEIGHBOUR: 'it returns false'. Refute it at one input. -/
def tagSeparatesWrong : ChangeSpec := { name := "tagSeparates", fn := fun _ => fun
  | [d1, d2, d3] => { results := [.lit (.bool false)], args := [d1, d2, d3] }
  | _ => none }
def TagSeparatesWrongFalsely : Prop := tagSeparatesRow.holds Try.pinned (OpenSpec.ofChange tagSeparatesWrong)

/-- 'patchbaykeep1.TagStrips': WHATEVER THE INPUT: true; the input reads as it did. -/
def tagStripsSpec : ChangeSpec := { name := "tagStrips", fn := fun _ => fun
  | [d1, d2, d3] => { results := [.lit (.bool true)], args := [d1, d2, d3] }
  | _ => none }
def tagStripsRow : OpenClaim := { program := "ytkdncfbbhbmaaaa", sum := "3b59e60f793f08f79ce6a45b47501c985b2d4c7262b7eb58fad7ab70e4e229b0", func := "patchbay/patchbaykeep1.TagStrips", spec := "tagStrips", apart := false }
def TagStripsSaid : Prop := tagStripsRow.holds Try.pinned (OpenSpec.ofChange tagStripsSpec)

/-- ITS FALSE NEIGHBOUR: 'it returns false'. Refute it at one input. -/
def tagStripsWrong : ChangeSpec := { name := "tagStrips", fn := fun _ => fun
  | [d1, d2, d3] => { results := [.lit (.bool false)], args := [d1, d2, d3] }
  | _ => none }
def TagStripsWrongFalsely : Prop := tagStripsRow.holds Try.pinned (OpenSpec.ofChange tagStripsWrong)

/-- 'patchbaykeep1.BackoffAlone': WHATEVER THE INPUT: true; the input reads as it did. -/
def backoffAloneSpec : ChangeSpec := { name := "backoffAlone", fn := fun _ => fun
  | [d1, d2] => { results := [.lit (.bool true)], args := [d1, d2] }
  | _ => none }
def backoffAloneRow : OpenClaim := { program := "ytkdncfbbhbmaaaa", sum := "3b59e60f793f08f79ce6a45b47501c985b2d4c7262b7eb58fad7ab70e4e229b0", func := "patchbay/patchbaykeep1.BackoffAlone", spec := "backoffAlone", apart := false }
def BackoffAloneSaid : Prop := backoffAloneRow.holds Try.pinned (OpenSpec.ofChange backoffAloneSpec)

/-- ITS FALSE NEIGHBOUR: 'it returns false'. Refute it at one input. -/
def backoffAloneWrong : ChangeSpec := { name := "backoffAlone", fn := fun _ => fun
  | [d1, d2] => { results := [.lit (.bool false)], args := [d1, d2] }
  | _ => none }
def BackoffAloneWrongFalsely : Prop := backoffAloneRow.holds Try.pinned (OpenSpec.ofChange backoffAloneWrong)

/-- 'patchbaykeep1.MediumShifts': WHATEVER THE INPUT: true; the input reads as it did. -/
def mediumShiftsSpec : ChangeSpec := { name := "mediumShifts", fn := fun _ => fun
  | [d1, d2, d3, d4, d5] => { results := [.lit (.bool true)], args := [d1, d2, d3, d4, d5] }
  | _ => none }
def mediumShiftsRow : OpenClaim := { program := "ytkdncfbbhbmaaaa", sum := "3b59e60f793f08f79ce6a45b47501c985b2d4c7262b7eb58fad7ab70e4e229b0", func := "patchbay/patchbaykeep1.MediumShifts", spec := "mediumShifts", apart := false }
def MediumShiftsSaid : Prop := mediumShiftsRow.holds Try.pinned (OpenSpec.ofChange mediumShiftsSpec)

/-- ITS FALSE NEIGHBOUR: 'it returns false'. Refute it at one input. -/
def mediumShiftsWrong : ChangeSpec := { name := "mediumShifts", fn := fun _ => fun
  | [d1, d2, d3, d4, d5] => { results := [.lit (.bool false)], args := [d1, d2, d3, d4, d5] }
  | _ => none }
def MediumShiftsWrongFalsely : Prop := mediumShiftsRow.holds Try.pinned (OpenSpec.ofChange mediumShiftsWrong)

/-- 'patchbaykeep1.MediumDetects': WHATEVER THE INPUT: true; the input reads as it did. -/
def mediumDetectsSpec : ChangeSpec := { name := "mediumDetects", fn := fun _ => fun
  | [d1, d2] => { results := [.lit (.bool true)], args := [d1, d2] }
  | _ => none }
def mediumDetectsRow : OpenClaim := { program := "ytkdncfbbhbmaaaa", sum := "3b59e60f793f08f79ce6a45b47501c985b2d4c7262b7eb58fad7ab70e4e229b0", func := "patchbay/patchbaykeep1.MediumDetects", spec := "mediumDetects", apart := false }
def MediumDetectsSaid : Prop := mediumDetectsRow.holds Try.pinned (OpenSpec.ofChange mediumDetectsSpec)

/-- ITS FALSE NEIGHBOUR: 'it returns false'. Refute it at one input. -/
def mediumDetectsWrong : ChangeSpec := { name := "mediumDetects", fn := fun _ => fun
  | [d1, d2] => { results := [.lit (.bool false)], args := [d1, d2] }
  | _ => none }
def MediumDetectsWrongFalsely : Prop := mediumDetectsRow.holds Try.pinned (OpenSpec.ofChange mediumDetectsWrong)

/-- 'patchbaykeep1.MediumOrder': WHATEVER THE INPUT: true; the input reads as it did. -/
def mediumOrderSpec : ChangeSpec := { name := "mediumOrder", fn := fun _ => fun
  | [d1, d2, d3, d4] => { results := [.lit (.bool true)], args := [d1, d2, d3, d4] }
  | _ => none }
def mediumOrderRow : OpenClaim := { program := "ytkdncfbbhbmaaaa", sum := "3b59e60f793f08f79ce6a45b47501c985b2d4c7262b7eb58fad7ab70e4e229b0", func := "patchbay/patchbaykeep1.MediumOrder", spec := "mediumOrder", apart := false }
def MediumOrderSaid : Prop := mediumOrderRow.holds Try.pinned (OpenSpec.ofChange mediumOrderSpec)

/-- ITS FALSE NEIGHBOUR: 'it returns false'. Refute it at one input. -/
def mediumOrderWrong : ChangeSpec := { name := "mediumOrder", fn := fun _ => fun
  | [d1, d2, d3, d4] => { results := [.lit (.bool false)], args := [d1, d2, d3, d4] }
  | _ => none }
def MediumOrderWrongFalsely : Prop := mediumOrderRow.holds Try.pinned (OpenSpec.ofChange mediumOrderWrong)

/-- 'patchbaykeep1.FrameRoundTrip': WHATEVER THE INPUT: true; the input reads as it did. -/
def frameRoundTripSpec : ChangeSpec := { name := "frameRoundTrip", fn := fun _ => fun
  | [d] => { results := [.lit (.bool true)], args := [d] }
  | _ => none }
def frameRoundTripRow : OpenClaim := { program := "ytkdncfbbhbmaaaa", sum := "3b59e60f793f08f79ce6a45b47501c985b2d4c7262b7eb58fad7ab70e4e229b0", func := "patchbay/patchbaykeep1.FrameRoundTrip", spec := "frameRoundTrip", apart := false }
def FrameRoundTripSaid : Prop := frameRoundTripRow.holds Try.pinned (OpenSpec.ofChange frameRoundTripSpec)

/-- ITS FALSE NEIGHBOUR: 'it returns false'. Refute it at one input. -/
def frameRoundTripWrong : ChangeSpec := { name := "frameRoundTrip", fn := fun _ => fun
  | [d] => { results := [.lit (.bool false)], args := [d] }
  | _ => none }
def FrameRoundTripWrongFalsely : Prop := frameRoundTripRow.holds Try.pinned (OpenSpec.ofChange frameRoundTripWrong)

/-- 'patchbaykeep1.FrameUnique': WHATEVER THE INPUT: true; the input reads as it did. -/
def frameUniqueSpec : ChangeSpec := { name := "frameUnique", fn := fun _ => fun
  | [d] => { results := [.lit (.bool true)], args := [d] }
  | _ => none }
def frameUniqueRow : OpenClaim := { program := "ytkdncfbbhbmaaaa", sum := "3b59e60f793f08f79ce6a45b47501c985b2d4c7262b7eb58fad7ab70e4e229b0", func := "patchbay/patchbaykeep1.FrameUnique", spec := "frameUnique", apart := false }
def FrameUniqueSaid : Prop := frameUniqueRow.holds Try.pinned (OpenSpec.ofChange frameUniqueSpec)

/-- ITS FALSE NEIGHBOUR: 'it returns false'. Refute it at one input. -/
def frameUniqueWrong : ChangeSpec := { name := "frameUnique", fn := fun _ => fun
  | [d] => { results := [.lit (.bool false)], args := [d] }
  | _ => none }
def FrameUniqueWrongFalsely : Prop := frameUniqueRow.holds Try.pinned (OpenSpec.ofChange frameUniqueWrong)

/-- 'patchbaykeep1.FrameDetects': WHATEVER THE INPUT: true; the input reads as it did. -/
def frameDetectsSpec : ChangeSpec := { name := "frameDetects", fn := fun _ => fun
  | [d1, d2, d3] => { results := [.lit (.bool true)], args := [d1, d2, d3] }
  | _ => none }
def frameDetectsRow : OpenClaim := { program := "ytkdncfbbhbmaaaa", sum := "3b59e60f793f08f79ce6a45b47501c985b2d4c7262b7eb58fad7ab70e4e229b0", func := "patchbay/patchbaykeep1.FrameDetects", spec := "frameDetects", apart := false }
def FrameDetectsSaid : Prop := frameDetectsRow.holds Try.pinned (OpenSpec.ofChange frameDetectsSpec)

/-- ITS FALSE NEIGHBOUR: 'it returns false'. Refute it at one input. -/
def frameDetectsWrong : ChangeSpec := { name := "frameDetects", fn := fun _ => fun
  | [d1, d2, d3] => { results := [.lit (.bool false)], args := [d1, d2, d3] }
  | _ => none }
def FrameDetectsWrongFalsely : Prop := frameDetectsRow.holds Try.pinned (OpenSpec.ofChange frameDetectsWrong)

/-- 'patchbaykeep1.FecBurst': WHATEVER THE INPUT: true; the input reads as it did. -/
def fecBurstSpec : ChangeSpec := { name := "fecBurst", fn := fun _ => fun
  | [d1, d2, d3, d4, d5, d6] => { results := [.lit (.bool true)], args := [d1, d2, d3, d4, d5, d6] }
  | _ => none }
def fecBurstRow : OpenClaim := { program := "ytkdncfbbhbmaaaa", sum := "3b59e60f793f08f79ce6a45b47501c985b2d4c7262b7eb58fad7ab70e4e229b0", func := "patchbay/patchbaykeep1.FecBurst", spec := "fecBurst", apart := false }
def FecBurstSaid : Prop := fecBurstRow.holds Try.pinned (OpenSpec.ofChange fecBurstSpec)

/-- ITS FALSE NEIGHBOUR: 'it returns false'. Refute it at one input. -/
def fecBurstWrong : ChangeSpec := { name := "fecBurst", fn := fun _ => fun
  | [d1, d2, d3, d4, d5, d6] => { results := [.lit (.bool false)], args := [d1, d2, d3, d4, d5, d6] }
  | _ => none }
def FecBurstWrongFalsely : Prop := fecBurstRow.holds Try.pinned (OpenSpec.ofChange fecBurstWrong)

/-- 'patchbaykeep1.FecDepths': WHATEVER THE INPUT: true; the input reads as it did. -/
def fecDepthsSpec : ChangeSpec := { name := "fecDepths", fn := fun _ => fun
  | [d1, d2, d3] => { results := [.lit (.bool true)], args := [d1, d2, d3] }
  | _ => none }
def fecDepthsRow : OpenClaim := { program := "ytkdncfbbhbmaaaa", sum := "3b59e60f793f08f79ce6a45b47501c985b2d4c7262b7eb58fad7ab70e4e229b0", func := "patchbay/patchbaykeep1.FecDepths", spec := "fecDepths", apart := false }
def FecDepthsSaid : Prop := fecDepthsRow.holds Try.pinned (OpenSpec.ofChange fecDepthsSpec)

/-- ITS FALSE NEIGHBOUR: 'it returns false'. Refute it at one input. -/
def fecDepthsWrong : ChangeSpec := { name := "fecDepths", fn := fun _ => fun
  | [d1, d2, d3] => { results := [.lit (.bool false)], args := [d1, d2, d3] }
  | _ => none }
def FecDepthsWrongFalsely : Prop := fecDepthsRow.holds Try.pinned (OpenSpec.ofChange fecDepthsWrong)

/- THE SECOND FORM. 'bulk': how many values and letters a reading holds, each counted each time it is reached (what is shared counts as often as it is met; a slice's spare places count too). A statement '..UptoSaid' is the law's where the arguments, and the package variables that the reading takes, are together of bulk at most 1048576: NARROWER than '..Said'. Prove '..Said' where nothing that the law and all that it calls make is longer than what came in: it says more and counts as full. Else prove '..UptoSaid'. A law counts once. -/
mutual
def uptoBulk {H : Type} : DataW H → Nat
  | .lit (.string bytes) => bytes.length + 1
  | .lit _ => 1
  | .nil => 1
  | .ptr d => uptoBulk d + 1
  | .slice elems spare => uptoBulkAll elems + uptoBulkAll spare + 1
  | .agg parts => uptoBulkAll parts + 1
  | .iface _ d => uptoBulk d + 1
  | .map entries => uptoBulkEntries entries + 1
  | .held _ => 1
def uptoBulkAll {H : Type} : List (DataW H) → Nat
  | [] => 0
  | d :: r => uptoBulk d + uptoBulkAll r
def uptoBulkEntries {H : Type} : List (Lit × DataW H) → Nat
  | [] => 0
  | x :: r => uptoBulkEntry x + uptoBulkEntries r
def uptoBulkEntry {H : Type} : Lit × DataW H → Nat
  | (.string bytes, d) => bytes.length + uptoBulk d + 1
  | (_, d) => uptoBulk d + 1
 end
def uptoSmall : (H : Type) → List (DataW H) → Bool := fun _ ds => decide (uptoBulkAll ds ≤ 1048576)
def OpenSpec.upto (s : _root_.Go.ChangeSpec) : _root_.Go.OpenSpec := { _root_.Go.OpenSpec.ofChange s with cond := some uptoSmall }

/-- 'patchbaykeep1.CrcShifts', WHERE WHAT IT READS IS OF BULK AT MOST 1048576: true; the input reads as it did. -/
def crcShiftsUptoRow : OpenClaim := { program := "ytkdncfbbhbmaaaa", sum := "3b59e60f793f08f79ce6a45b47501c985b2d4c7262b7eb58fad7ab70e4e229b0", func := "patchbay/patchbaykeep1.CrcShifts", spec := "crcShifts", apart := false, narrowed := true }
def CrcShiftsUptoSaid : Prop := crcShiftsUptoRow.holds Try.pinned (OpenSpec.upto crcShiftsSpec)

/-- 'patchbaykeep1.FecDistance', WHERE WHAT IT READS IS OF BULK AT MOST 1048576: true; the input reads as it did. -/
def fecDistanceUptoRow : OpenClaim := { program := "ytkdncfbbhbmaaaa", sum := "3b59e60f793f08f79ce6a45b47501c985b2d4c7262b7eb58fad7ab70e4e229b0", func := "patchbay/patchbaykeep1.FecDistance", spec := "fecDistance", apart := false, narrowed := true }
def FecDistanceUptoSaid : Prop := fecDistanceUptoRow.holds Try.pinned (OpenSpec.upto fecDistanceSpec)

/-- 'patchbaykeep1.FecFixes', WHERE WHAT IT READS IS OF BULK AT MOST 1048576: true; the input reads as it did. -/
def fecFixesUptoRow : OpenClaim := { program := "ytkdncfbbhbmaaaa", sum := "3b59e60f793f08f79ce6a45b47501c985b2d4c7262b7eb58fad7ab70e4e229b0", func := "patchbay/patchbaykeep1.FecFixes", spec := "fecFixes", apart := false, narrowed := true }
def FecFixesUptoSaid : Prop := fecFixesUptoRow.holds Try.pinned (OpenSpec.upto fecFixesSpec)

/-- 'patchbaykeep1.FrameUnlike', WHERE WHAT IT READS IS OF BULK AT MOST 1048576: true; the input reads as it did. -/
def frameUnlikeUptoRow : OpenClaim := { program := "ytkdncfbbhbmaaaa", sum := "3b59e60f793f08f79ce6a45b47501c985b2d4c7262b7eb58fad7ab70e4e229b0", func := "patchbay/patchbaykeep1.FrameUnlike", spec := "frameUnlike", apart := false, narrowed := true }
def FrameUnlikeUptoSaid : Prop := frameUnlikeUptoRow.holds Try.pinned (OpenSpec.upto frameUnlikeSpec)

/-- 'patchbaykeep1.MediumAlone', WHERE WHAT IT READS IS OF BULK AT MOST 1048576: true; the input reads as it did. -/
def mediumAloneUptoRow : OpenClaim := { program := "ytkdncfbbhbmaaaa", sum := "3b59e60f793f08f79ce6a45b47501c985b2d4c7262b7eb58fad7ab70e4e229b0", func := "patchbay/patchbaykeep1.MediumAlone", spec := "mediumAlone", apart := false, narrowed := true }
def MediumAloneUptoSaid : Prop := mediumAloneUptoRow.holds Try.pinned (OpenSpec.upto mediumAloneSpec)

/-- 'patchbaykeep1.BackoffDoubles', WHERE WHAT IT READS IS OF BULK AT MOST 1048576: true; the input reads as it did. -/
def backoffDoublesUptoRow : OpenClaim := { program := "ytkdncfbbhbmaaaa", sum := "3b59e60f793f08f79ce6a45b47501c985b2d4c7262b7eb58fad7ab70e4e229b0", func := "patchbay/patchbaykeep1.BackoffDoubles", spec := "backoffDoubles", apart := false, narrowed := true }
def BackoffDoublesUptoSaid : Prop := backoffDoublesUptoRow.holds Try.pinned (OpenSpec.upto backoffDoublesSpec)

/-- 'patchbaykeep1.TagReturns', WHERE WHAT IT READS IS OF BULK AT MOST 1048576: true; the input reads as it did. -/
def tagReturnsUptoRow : OpenClaim := { program := "ytkdncfbbhbmaaaa", sum := "3b59e60f793f08f79ce6a45b47501c985b2d4c7262b7eb58fad7ab70e4e229b0", func := "patchbay/patchbaykeep1.TagReturns", spec := "tagReturns", apart := false, narrowed := true }
def TagReturnsUptoSaid : Prop := tagReturnsUptoRow.holds Try.pinned (OpenSpec.upto tagReturnsSpec)

/-- 'patchbaykeep1.TagSeparates', WHERE WHAT IT READS IS OF BULK AT MOST 1048576: true; the input reads as it did. -/
def tagSeparatesUptoRow : OpenClaim := { program := "ytkdncfbbhbmaaaa", sum := "3b59e60f793f08f79ce6a45b47501c985b2d4c7262b7eb58fad7ab70e4e229b0", func := "patchbay/patchbaykeep1.TagSeparates", spec := "tagSeparates", apart := false, narrowed := true }
def TagSeparatesUptoSaid : Prop := tagSeparatesUptoRow.holds Try.pinned (OpenSpec.upto tagSeparatesSpec)

/-- 'patchbaykeep1.TagStrips', WHERE WHAT IT READS IS OF BULK AT MOST 1048576: true; the input reads as it did. -/
def tagStripsUptoRow : OpenClaim := { program := "ytkdncfbbhbmaaaa", sum := "3b59e60f793f08f79ce6a45b47501c985b2d4c7262b7eb58fad7ab70e4e229b0", func := "patchbay/patchbaykeep1.TagStrips", spec := "tagStrips", apart := false, narrowed := true }
def TagStripsUptoSaid : Prop := tagStripsUptoRow.holds Try.pinned (OpenSpec.upto tagStripsSpec)

/-- 'patchbaykeep1.BackoffAlone', WHERE WHAT IT READS IS OF BULK AT MOST 1048576: true; the input reads as it did. -/
def backoffAloneUptoRow : OpenClaim := { program := "ytkdncfbbhbmaaaa", sum := "3b59e60f793f08f79ce6a45b47501c985b2d4c7262b7eb58fad7ab70e4e229b0", func := "patchbay/patchbaykeep1.BackoffAlone", spec := "backoffAlone", apart := false, narrowed := true }
def BackoffAloneUptoSaid : Prop := backoffAloneUptoRow.holds Try.pinned (OpenSpec.upto backoffAloneSpec)

/-- 'patchbaykeep1.MediumShifts', WHERE WHAT IT READS IS OF BULK AT MOST 1048576: true; the input reads as it did. -/
def mediumShiftsUptoRow : OpenClaim := { program := "ytkdncfbbhbmaaaa", sum := "3b59e60f793f08f79ce6a45b47501c985b2d4c7262b7eb58fad7ab70e4e229b0", func := "patchbay/patchbaykeep1.MediumShifts", spec := "mediumShifts", apart := false, narrowed := true }
def MediumShiftsUptoSaid : Prop := mediumShiftsUptoRow.holds Try.pinned (OpenSpec.upto mediumShiftsSpec)

/-- 'patchbaykeep1.MediumDetects', WHERE WHAT IT READS IS OF BULK AT MOST 1048576: true; the input reads as it did. -/
def mediumDetectsUptoRow : OpenClaim := { program := "ytkdncfbbhbmaaaa", sum := "3b59e60f793f08f79ce6a45b47501c985b2d4c7262b7eb58fad7ab70e4e229b0", func := "patchbay/patchbaykeep1.MediumDetects", spec := "mediumDetects", apart := false, narrowed := true }
def MediumDetectsUptoSaid : Prop := mediumDetectsUptoRow.holds Try.pinned (OpenSpec.upto mediumDetectsSpec)

/-- 'patchbaykeep1.MediumOrder', WHERE WHAT IT READS IS OF BULK AT MOST 1048576: true; the input reads as it did. -/
def mediumOrderUptoRow : OpenClaim := { program := "ytkdncfbbhbmaaaa", sum := "3b59e60f793f08f79ce6a45b47501c985b2d4c7262b7eb58fad7ab70e4e229b0", func := "patchbay/patchbaykeep1.MediumOrder", spec := "mediumOrder", apart := false, narrowed := true }
def MediumOrderUptoSaid : Prop := mediumOrderUptoRow.holds Try.pinned (OpenSpec.upto mediumOrderSpec)

/-- 'patchbaykeep1.FrameRoundTrip', WHERE WHAT IT READS IS OF BULK AT MOST 1048576: true; the input reads as it did. -/
def frameRoundTripUptoRow : OpenClaim := { program := "ytkdncfbbhbmaaaa", sum := "3b59e60f793f08f79ce6a45b47501c985b2d4c7262b7eb58fad7ab70e4e229b0", func := "patchbay/patchbaykeep1.FrameRoundTrip", spec := "frameRoundTrip", apart := false, narrowed := true }
def FrameRoundTripUptoSaid : Prop := frameRoundTripUptoRow.holds Try.pinned (OpenSpec.upto frameRoundTripSpec)

/-- 'patchbaykeep1.FrameUnique', WHERE WHAT IT READS IS OF BULK AT MOST 1048576: true; the input reads as it did. -/
def frameUniqueUptoRow : OpenClaim := { program := "ytkdncfbbhbmaaaa", sum := "3b59e60f793f08f79ce6a45b47501c985b2d4c7262b7eb58fad7ab70e4e229b0", func := "patchbay/patchbaykeep1.FrameUnique", spec := "frameUnique", apart := false, narrowed := true }
def FrameUniqueUptoSaid : Prop := frameUniqueUptoRow.holds Try.pinned (OpenSpec.upto frameUniqueSpec)

/-- 'patchbaykeep1.FrameDetects', WHERE WHAT IT READS IS OF BULK AT MOST 1048576: true; the input reads as it did. -/
def frameDetectsUptoRow : OpenClaim := { program := "ytkdncfbbhbmaaaa", sum := "3b59e60f793f08f79ce6a45b47501c985b2d4c7262b7eb58fad7ab70e4e229b0", func := "patchbay/patchbaykeep1.FrameDetects", spec := "frameDetects", apart := false, narrowed := true }
def FrameDetectsUptoSaid : Prop := frameDetectsUptoRow.holds Try.pinned (OpenSpec.upto frameDetectsSpec)

/-- 'patchbaykeep1.FecBurst', WHERE WHAT IT READS IS OF BULK AT MOST 1048576: true; the input reads as it did. -/
def fecBurstUptoRow : OpenClaim := { program := "ytkdncfbbhbmaaaa", sum := "3b59e60f793f08f79ce6a45b47501c985b2d4c7262b7eb58fad7ab70e4e229b0", func := "patchbay/patchbaykeep1.FecBurst", spec := "fecBurst", apart := false, narrowed := true }
def FecBurstUptoSaid : Prop := fecBurstUptoRow.holds Try.pinned (OpenSpec.upto fecBurstSpec)

/-- 'patchbaykeep1.FecDepths', WHERE WHAT IT READS IS OF BULK AT MOST 1048576: true; the input reads as it did. -/
def fecDepthsUptoRow : OpenClaim := { program := "ytkdncfbbhbmaaaa", sum := "3b59e60f793f08f79ce6a45b47501c985b2d4c7262b7eb58fad7ab70e4e229b0", func := "patchbay/patchbaykeep1.FecDepths", spec := "fecDepths", apart := false, narrowed := true }
def FecDepthsUptoSaid : Prop := fecDepthsUptoRow.holds Try.pinned (OpenSpec.upto fecDepthsSpec)

end Rows
end Go.Proofs.Ytkdncfbbhbmaaaa
