/-
  DERIVED. GIVEN WITH THE SEED: THE CARDS: each row of YtgbfemglimebdaaGreatDoorRows.lean that lists a variable, with what it lists TIED to the program's text (the seventh form; the later family's looks); each row that meets fmt, with fmt's text TOLD by the authors' own Lean function (tested against real Go, not proved from fmt's source: count such statements apart). THE CARD IS WHAT COUNTS. Prove the row's statement (the work); the ties are given (YtgbfemglimebdaaGreatDoorTie.lean); close each card by the builder's one call (the guide's Derived/Test/ToyasCard.lean, 'card_holds'). Laid BY PROGRAM, IN A SANDBOX (cutbox-door.mjs). By AI agents, Wed Nov 11 2026. No macro, syntax, notation, axiom, sorry.
-/
import Derived.Test.YtgbfemglimebdaaGreatDoorRows
import GoSem.ClaimSeven
namespace Go.Proofs.YtgbfemglimebdaaGreatDoor
namespace Rows

/-- THE TIED CARD OF 'laws.FnExactBoardLine'. -/
def fnExactBoardLineCard : Claim7 := { stood := { row := fnExactBoardLineRow, standIns := [], harness := (true, "6933f2887b5bb29f5426ba23490ec82822e74502124ad4ee74a5aa0dc7fdd57b"), looks := false }, kinds := [], alts := [], laidByText := true, laidKinds := [.data, .data, .data], laidTests := true, laidLooks := .later }
def FnExactBoardLineCardSaid : Prop := Claim7.holds Tryz.pinned (.plain (OpenSpec.ofChange fnExactBoardLineSpec)) fnExactBoardLineCard

/-- THE SECOND FORM's CARD OF 'laws.FnExactBoardLine'. -/
def fnExactBoardLineUptoCard : Claim7 := { stood := { row := fnExactBoardLineUptoRow, standIns := [], harness := (true, "6933f2887b5bb29f5426ba23490ec82822e74502124ad4ee74a5aa0dc7fdd57b"), looks := false }, kinds := [], alts := [], laidByText := true, laidKinds := [.data, .data, .data], laidTests := true, laidLooks := .later }
def FnExactBoardLineUptoCardSaid : Prop := Claim7.holds Tryz.pinned (.plain (OpenSpec.upto fnExactBoardLineSpec)) fnExactBoardLineUptoCard
end Rows
end Go.Proofs.YtgbfemglimebdaaGreatDoor
