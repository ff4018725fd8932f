/-
  DERIVED. GIVEN WITH THE SEED: THE CARDS: each row of YtfglnaimpjkcfaaDoorRows.lean that lists a variable, with what it lists TIED to the program's text (the seventh form; the later family's looks); each row that meets fmt, with fmt's text TOLD by the authors' own Lean function (tested against real Go, not proved from fmt's source: count such statements apart). THE CARD IS WHAT COUNTS. Prove the row's statement (the work); the ties are given (YtfglnaimpjkcfaaDoorTie.lean); close each card by the builder's one call (the guide's Derived/Test/ToyasCard.lean, 'card_holds'). Laid BY PROGRAM, IN A SANDBOX (cutbox-door.mjs). By AI agents, Wed Nov 11 2026. No macro, syntax, notation, axiom, sorry.
-/
import Derived.Test.YtfglnaimpjkcfaaDoorRows
import GoSem.ClaimSeven
namespace Go.Proofs.YtfglnaimpjkcfaaDoor
namespace Rows

/-- THE TIED CARD OF 'longeronlaw15.OpTexts'. -/
def opTextsCard : Claim7 := { stood := { row := opTextsRow, standIns := [], harness := (true, "f4f4afb1ce5bdea597e0e1a32f9e9e3fa9dfc73ad371f8e09dd7ed8745f7472a"), looks := true }, kinds := [], alts := [], laidByText := true, laidKinds := [.data, .data, .data, .data, .sentinel, .sentinel, .pinned], laidTests := true, laidLooks := .later }
def OpTextsCardSaid : Prop := Claim7.holds Tryd.pinned (.plain (OpenSpec.ofChange opTextsSpec)) opTextsCard

/-- THE SECOND FORM's CARD OF 'longeronlaw15.OpTexts'. -/
def opTextsUptoCard : Claim7 := { stood := { row := opTextsUptoRow, standIns := [], harness := (true, "f4f4afb1ce5bdea597e0e1a32f9e9e3fa9dfc73ad371f8e09dd7ed8745f7472a"), looks := true }, kinds := [], alts := [], laidByText := true, laidKinds := [.data, .data, .data, .data, .sentinel, .sentinel, .pinned], laidTests := true, laidLooks := .later }
def OpTextsUptoCardSaid : Prop := Claim7.holds Tryd.pinned (.plain (OpenSpec.upto opTextsSpec)) opTextsUptoCard
end Rows
end Go.Proofs.YtfglnaimpjkcfaaDoor
