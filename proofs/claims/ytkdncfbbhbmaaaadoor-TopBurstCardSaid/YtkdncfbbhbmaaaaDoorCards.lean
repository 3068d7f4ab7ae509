/-
  DERIVED. GIVEN WITH THE SEED: THE CARDS: each row of YtkdncfbbhbmaaaaDoorRows.lean that lists a variable, with what it lists TIED to the program's text (the seventh form; the later family's looks); each row that meets fmt, with fmt's text TOLD by the authors' own Lean function (tested against real Go, not proved from fmt's source: count such statements apart). THE CARD IS WHAT COUNTS. Prove the row's statement (the work); the ties are given (YtkdncfbbhbmaaaaDoorTie.lean); close each card by the builder's one call (the guide's Derived/Test/ToyasCard.lean, 'card_holds'). Laid BY PROGRAM, IN A SANDBOX (cutbox-door.mjs). By AI agents, Wed Nov 11 2026. No macro, syntax, notation, axiom, sorry.
-/
import Derived.Test.YtkdncfbbhbmaaaaDoorRows
import GoSem.ClaimSeven
namespace Go.Proofs.YtkdncfbbhbmaaaaDoor
namespace Rows

/-- THE TIED CARD OF 'patchbaytop.TopBurst'. -/
def topBurstCard : Claim7 := { stood := { row := topBurstRow, standIns := [], harness := (true, "d98708ed50df83fae60d1f194076e45e8905623a86e3cb0b682d9b33bfbab5f3"), looks := false }, kinds := [], alts := [], laidByText := true, laidKinds := [.data, .widerDeep, .pinned], laidTests := true, laidLooks := .later }
def TopBurstCardSaid : Prop := Claim7.holds Tryd.pinned (.plain (OpenSpec.ofChange topBurstSpec)) topBurstCard

/-- THE SECOND FORM's CARD OF 'patchbaytop.TopBurst'. -/
def topBurstUptoCard : Claim7 := { stood := { row := topBurstUptoRow, standIns := [], harness := (true, "d98708ed50df83fae60d1f194076e45e8905623a86e3cb0b682d9b33bfbab5f3"), looks := false }, kinds := [], alts := [], laidByText := true, laidKinds := [.data, .widerDeep, .pinned], laidTests := true, laidLooks := .later }
def TopBurstUptoCardSaid : Prop := Claim7.holds Tryd.pinned (.plain (OpenSpec.upto topBurstSpec)) topBurstUptoCard
end Rows
end Go.Proofs.YtkdncfbbhbmaaaaDoor
