/-
  DERIVED. GIVEN WITH THE SEED: THE CARDS: each row of YtpdijcbgdalphabGreatDoorRows.lean that lists a variable, with what it lists TIED to the program's text (the seventh form; the later family's looks); each row that meets fmt, with fmt's text TOLD by the authors' own Lean function (tested against real Go, not proved from fmt's source: count such statements apart). THE CARD IS WHAT COUNTS. Prove the row's statement (the work); the ties are given (YtpdijcbgdalphabGreatDoorTie.lean); close each card by the builder's one call (the guide's Derived/Test/ToyasCard.lean, 'card_holds'). Laid BY PROGRAM, IN A SANDBOX (cutbox-door.mjs). By AI agents, Wed Nov 11 2026. No macro, syntax, notation, axiom, sorry.
-/
import Derived.Test.YtpdijcbgdalphabGreatDoorRows
import GoSem.ClaimSeven
namespace Go.Proofs.YtpdijcbgdalphabGreatDoor
namespace Rows

/-- THE TIED CARD OF 'laws.FnScript'. -/
def fnScriptCard : Claim7 := { stood := { row := fnScriptRow, standIns := [], harness := (true, "d94b39679e3180789b8a9907670a7cc93b932304268ee2dd339673947591bc3e"), looks := false }, kinds := [], alts := [], laidByText := true, laidKinds := [.data, .data, .data, .data, .pinned], laidTests := true, laidLooks := .later }
def FnScriptCardSaid : Prop := Claim7.holds Tryz.pinned (.plain (OpenSpec.ofChange fnScriptSpec)) fnScriptCard

/-- THE TIED CARD OF 'laws.FnReadScript'. -/
def fnReadScriptCard : Claim7 := { stood := { row := fnReadScriptRow, standIns := [], harness := (true, "d94b39679e3180789b8a9907670a7cc93b932304268ee2dd339673947591bc3e"), looks := false }, kinds := [], alts := [], laidByText := true, laidKinds := [.data, .data, .data, .data, .pinned], laidTests := true, laidLooks := .later }
def FnReadScriptCardSaid : Prop := Claim7.holds Tryz.pinned (.plain (OpenSpec.ofChange fnReadScriptSpec)) fnReadScriptCard

/-- THE SECOND FORM's CARD OF 'laws.FnScript'. -/
def fnScriptUptoCard : Claim7 := { stood := { row := fnScriptUptoRow, standIns := [], harness := (true, "d94b39679e3180789b8a9907670a7cc93b932304268ee2dd339673947591bc3e"), looks := false }, kinds := [], alts := [], laidByText := true, laidKinds := [.data, .data, .data, .data, .pinned], laidTests := true, laidLooks := .later }
def FnScriptUptoCardSaid : Prop := Claim7.holds Tryz.pinned (.plain (OpenSpec.upto fnScriptSpec)) fnScriptUptoCard

/-- THE SECOND FORM's CARD OF 'laws.FnReadScript'. -/
def fnReadScriptUptoCard : Claim7 := { stood := { row := fnReadScriptUptoRow, standIns := [], harness := (true, "d94b39679e3180789b8a9907670a7cc93b932304268ee2dd339673947591bc3e"), looks := false }, kinds := [], alts := [], laidByText := true, laidKinds := [.data, .data, .data, .data, .pinned], laidTests := true, laidLooks := .later }
def FnReadScriptUptoCardSaid : Prop := Claim7.holds Tryz.pinned (.plain (OpenSpec.upto fnReadScriptSpec)) fnReadScriptUptoCard
end Rows
end Go.Proofs.YtpdijcbgdalphabGreatDoor
