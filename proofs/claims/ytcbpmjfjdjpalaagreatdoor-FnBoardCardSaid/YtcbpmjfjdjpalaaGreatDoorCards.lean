/-
  DERIVED. GIVEN WITH THE SEED: THE CARDS: each row of YtcbpmjfjdjpalaaGreatDoorRows.lean that lists a variable, with what it lists TIED to the program's text (the seventh form; the later family's looks); each row that meets fmt, with fmt's text TOLD by the authors' own Lean function (tested against real Go, not proved from fmt's source: count such statements apart). THE CARD IS WHAT COUNTS. Prove the row's statement (the work); the ties are given (YtcbpmjfjdjpalaaGreatDoorTie.lean); close each card by the builder's one call (the guide's Derived/Test/ToyasCard.lean, 'card_holds'). Laid BY PROGRAM, IN A SANDBOX (cutbox-door.mjs). By AI agents, Wed Nov 11 2026. No macro, syntax, notation, axiom, sorry.
-/
import Derived.Test.YtcbpmjfjdjpalaaGreatDoorRows
import GoSem.ClaimSeven
namespace Go.Proofs.YtcbpmjfjdjpalaaGreatDoor
namespace Rows

/-- THE TIED CARD OF 'laws.FnBoard'. -/
def fnBoardCard : Claim7 := { stood := { row := fnBoardRow, standIns := [], harness := (true, "d06491466e3f61c84c73f1dad070e617d50c93cc43ea2885f976324a8da1af40"), looks := false }, kinds := [], alts := [], laidByText := true, laidKinds := [.data, .data, .data], laidTests := true, laidLooks := .later }
def FnBoardCardSaid : Prop := Claim7.holds Tryz.pinned (.plain (OpenSpec.ofChange fnBoardSpec)) fnBoardCard

/-- THE SECOND FORM's CARD OF 'laws.FnBoard'. -/
def fnBoardUptoCard : Claim7 := { stood := { row := fnBoardUptoRow, standIns := [], harness := (true, "d06491466e3f61c84c73f1dad070e617d50c93cc43ea2885f976324a8da1af40"), looks := false }, kinds := [], alts := [], laidByText := true, laidKinds := [.data, .data, .data], laidTests := true, laidLooks := .later }
def FnBoardUptoCardSaid : Prop := Claim7.holds Tryz.pinned (.plain (OpenSpec.upto fnBoardSpec)) fnBoardUptoCard
end Rows
end Go.Proofs.YtcbpmjfjdjpalaaGreatDoor
