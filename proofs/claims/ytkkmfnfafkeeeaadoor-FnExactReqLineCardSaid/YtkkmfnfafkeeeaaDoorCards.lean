/-
  DERIVED. GIVEN WITH THE SEED: THE CARDS: each row of YtkkmfnfafkeeeaaDoorRows.lean that lists a variable, with what it lists TIED to the program's text (the seventh form; the later family's looks); each row that meets fmt, with fmt's text TOLD by the authors' own Lean function (tested against real Go, not proved from fmt's source: count such statements apart). THE CARD IS WHAT COUNTS. Prove the row's statement (the work); the ties are given (YtkkmfnfafkeeeaaDoorTie.lean); close each card by the builder's one call (the guide's Derived/Test/ToyasCard.lean, 'card_holds'). Laid BY PROGRAM, IN A SANDBOX (cutbox-door.mjs). By AI agents, Wed Nov 11 2026. No macro, syntax, notation, axiom, sorry.
-/
import Derived.Test.YtkkmfnfafkeeeaaDoorRows
import GoSem.ClaimSeven
namespace Go.Proofs.YtkkmfnfafkeeeaaDoor
namespace Rows

/-- THE TIED CARD OF 'laws.FnExactReplyLine'. -/
def fnExactReplyLineCard : Claim7 := { stood := { row := fnExactReplyLineRow, standIns := [], harness := (true, "05d8c314890fb443782d5a5ec0f48865c3496444ab81fd4960fc7f4c5edbd4f6"), looks := false }, kinds := [], alts := [], laidByText := true, laidKinds := [.data, .data, .data], laidTests := true, laidLooks := .later }
def FnExactReplyLineCardSaid : Prop := Claim7.holds Tryd.pinned (.plain (OpenSpec.ofChange fnExactReplyLineSpec)) fnExactReplyLineCard

/-- THE TIED CARD OF 'laws.FnExactReqLine'. -/
def fnExactReqLineCard : Claim7 := { stood := { row := fnExactReqLineRow, standIns := [], harness := (true, "05d8c314890fb443782d5a5ec0f48865c3496444ab81fd4960fc7f4c5edbd4f6"), looks := false }, kinds := [], alts := [], laidByText := true, laidKinds := [.data, .data, .data], laidTests := true, laidLooks := .later }
def FnExactReqLineCardSaid : Prop := Claim7.holds Tryd.pinned (.plain (OpenSpec.ofChange fnExactReqLineSpec)) fnExactReqLineCard

/-- THE TIED CARD OF 'laws.FnExactScriptText'. -/
def fnExactScriptTextCard : Claim7 := { stood := { row := fnExactScriptTextRow, standIns := [], harness := (true, "05d8c314890fb443782d5a5ec0f48865c3496444ab81fd4960fc7f4c5edbd4f6"), looks := false }, kinds := [], alts := [], laidByText := true, laidKinds := [.data, .data, .data], laidTests := true, laidLooks := .later }
def FnExactScriptTextCardSaid : Prop := Claim7.holds Tryd.pinned (.plain (OpenSpec.ofChange fnExactScriptTextSpec)) fnExactScriptTextCard

/-- THE TIED CARD OF 'laws.FnExactActLine'. -/
def fnExactActLineCard : Claim7 := { stood := { row := fnExactActLineRow, standIns := [], harness := (true, "05d8c314890fb443782d5a5ec0f48865c3496444ab81fd4960fc7f4c5edbd4f6"), looks := false }, kinds := [], alts := [], laidByText := true, laidKinds := [.data, .data, .data], laidTests := true, laidLooks := .later }
def FnExactActLineCardSaid : Prop := Claim7.holds Tryd.pinned (.plain (OpenSpec.ofChange fnExactActLineSpec)) fnExactActLineCard

/-- THE TIED CARD OF 'laws.FnReplyLine'. -/
def fnReplyLineCard : Claim7 := { stood := { row := fnReplyLineRow, standIns := [], harness := (true, "05d8c314890fb443782d5a5ec0f48865c3496444ab81fd4960fc7f4c5edbd4f6"), looks := false }, kinds := [], alts := [], laidByText := true, laidKinds := [.data, .data, .data, .data, .pinned], laidTests := true, laidLooks := .later }
def FnReplyLineCardSaid : Prop := Claim7.holds Tryd.pinned (.plain (OpenSpec.ofChange fnReplyLineSpec)) fnReplyLineCard

/-- THE SECOND FORM's CARD OF 'laws.FnExactReplyLine'. -/
def fnExactReplyLineUptoCard : Claim7 := { stood := { row := fnExactReplyLineUptoRow, standIns := [], harness := (true, "05d8c314890fb443782d5a5ec0f48865c3496444ab81fd4960fc7f4c5edbd4f6"), looks := false }, kinds := [], alts := [], laidByText := true, laidKinds := [.data, .data, .data], laidTests := true, laidLooks := .later }
def FnExactReplyLineUptoCardSaid : Prop := Claim7.holds Tryd.pinned (.plain (OpenSpec.upto fnExactReplyLineSpec)) fnExactReplyLineUptoCard

/-- THE SECOND FORM's CARD OF 'laws.FnExactReqLine'. -/
def fnExactReqLineUptoCard : Claim7 := { stood := { row := fnExactReqLineUptoRow, standIns := [], harness := (true, "05d8c314890fb443782d5a5ec0f48865c3496444ab81fd4960fc7f4c5edbd4f6"), looks := false }, kinds := [], alts := [], laidByText := true, laidKinds := [.data, .data, .data], laidTests := true, laidLooks := .later }
def FnExactReqLineUptoCardSaid : Prop := Claim7.holds Tryd.pinned (.plain (OpenSpec.upto fnExactReqLineSpec)) fnExactReqLineUptoCard

/-- THE SECOND FORM's CARD OF 'laws.FnExactScriptText'. -/
def fnExactScriptTextUptoCard : Claim7 := { stood := { row := fnExactScriptTextUptoRow, standIns := [], harness := (true, "05d8c314890fb443782d5a5ec0f48865c3496444ab81fd4960fc7f4c5edbd4f6"), looks := false }, kinds := [], alts := [], laidByText := true, laidKinds := [.data, .data, .data], laidTests := true, laidLooks := .later }
def FnExactScriptTextUptoCardSaid : Prop := Claim7.holds Tryd.pinned (.plain (OpenSpec.upto fnExactScriptTextSpec)) fnExactScriptTextUptoCard

/-- THE SECOND FORM's CARD OF 'laws.FnExactActLine'. -/
def fnExactActLineUptoCard : Claim7 := { stood := { row := fnExactActLineUptoRow, standIns := [], harness := (true, "05d8c314890fb443782d5a5ec0f48865c3496444ab81fd4960fc7f4c5edbd4f6"), looks := false }, kinds := [], alts := [], laidByText := true, laidKinds := [.data, .data, .data], laidTests := true, laidLooks := .later }
def FnExactActLineUptoCardSaid : Prop := Claim7.holds Tryd.pinned (.plain (OpenSpec.upto fnExactActLineSpec)) fnExactActLineUptoCard

/-- THE SECOND FORM's CARD OF 'laws.FnReplyLine'. -/
def fnReplyLineUptoCard : Claim7 := { stood := { row := fnReplyLineUptoRow, standIns := [], harness := (true, "05d8c314890fb443782d5a5ec0f48865c3496444ab81fd4960fc7f4c5edbd4f6"), looks := false }, kinds := [], alts := [], laidByText := true, laidKinds := [.data, .data, .data, .data, .pinned], laidTests := true, laidLooks := .later }
def FnReplyLineUptoCardSaid : Prop := Claim7.holds Tryd.pinned (.plain (OpenSpec.upto fnReplyLineSpec)) fnReplyLineUptoCard
end Rows
end Go.Proofs.YtkkmfnfafkeeeaaDoor
