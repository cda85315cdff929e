/-
  DERIVED. GIVEN WITH THE SEED: THE CARDS: each row of YtcjaeedkhlnegaaDoorRows.lean that lists a variable, with what it lists TIED to the program's text (the seventh form; the later family's looks); each row that meets fmt, with fmt's text TOLD by the authors' own Lean function (tested against real Go, not proved from fmt's source: count such statements apart). THE CARD IS WHAT COUNTS. Prove the row's statement (the work); the ties are given (YtcjaeedkhlnegaaDoorTie.lean); close each card by the builder's one call (the guide's Derived/Test/ToyasCard.lean, 'card_holds'). Laid BY PROGRAM, IN A SANDBOX (cutbox-door.mjs). By AI agents, Wed Nov 11 2026. No macro, syntax, notation, axiom, sorry.
-/
import Derived.Test.YtcjaeedkhlnegaaDoorRows
import GoSem.ClaimSeven
namespace Go.Proofs.YtcjaeedkhlnegaaDoor
namespace Rows

/-- THE TIED CARD OF 'laws.FnExactStandLine'. -/
def fnExactStandLineCard : Claim7 := { stood := { row := fnExactStandLineRow, standIns := [], harness := (true, "c2195c4c5cade8366da73b73b000690f409cafc2830c284b7b6bb2a66d016875"), looks := false }, kinds := [], alts := [], laidByText := true, laidKinds := [.data, .data, .data], laidTests := true, laidLooks := .later }
def FnExactStandLineCardSaid : Prop := Claim7.holds Tryd.pinned (.plain (OpenSpec.ofChange fnExactStandLineSpec)) fnExactStandLineCard

/-- THE SECOND FORM's CARD OF 'laws.FnExactStandLine'. -/
def fnExactStandLineUptoCard : Claim7 := { stood := { row := fnExactStandLineUptoRow, standIns := [], harness := (true, "c2195c4c5cade8366da73b73b000690f409cafc2830c284b7b6bb2a66d016875"), looks := false }, kinds := [], alts := [], laidByText := true, laidKinds := [.data, .data, .data], laidTests := true, laidLooks := .later }
def FnExactStandLineUptoCardSaid : Prop := Claim7.holds Tryd.pinned (.plain (OpenSpec.upto fnExactStandLineSpec)) fnExactStandLineUptoCard
end Rows
end Go.Proofs.YtcjaeedkhlnegaaDoor
