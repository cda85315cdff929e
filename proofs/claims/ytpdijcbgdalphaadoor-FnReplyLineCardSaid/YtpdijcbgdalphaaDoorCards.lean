/-
  DERIVED. GIVEN WITH THE SEED: THE CARDS: each row of YtpdijcbgdalphaaDoorRows.lean that lists a variable, with what it lists TIED to the program's text (the seventh form; the later family's looks); each row that meets fmt, with fmt's text TOLD by the authors' own Lean function (tested against real Go, not proved from fmt's source: count such statements apart). THE CARD IS WHAT COUNTS. Prove the row's statement (the work); the ties are given (YtpdijcbgdalphaaDoorTie.lean); close each card by the builder's one call (the guide's Derived/Test/ToyasCard.lean, 'card_holds'). Laid BY PROGRAM, IN A SANDBOX (cutbox-door.mjs). By AI agents, Wed Nov 11 2026. No macro, syntax, notation, axiom, sorry.
-/
import Derived.Test.YtpdijcbgdalphaaDoorRows
import GoSem.ClaimSeven
namespace Go.Proofs.YtpdijcbgdalphaaDoor
namespace Rows

/-- THE TIED CARD OF 'laws.FnExactReplyLine'. -/
def fnExactReplyLineCard : Claim7 := { stood := { row := fnExactReplyLineRow, standIns := [], harness := (true, "e457d785c98077ded89951d9ccecf8a385f6e71891209c96905af7094baef333"), looks := false }, kinds := [], alts := [], laidByText := true, laidKinds := [.data, .data, .data], laidTests := true, laidLooks := .later }
def FnExactReplyLineCardSaid : Prop := Claim7.holds Tryd.pinned (.plain (OpenSpec.ofChange fnExactReplyLineSpec)) fnExactReplyLineCard

/-- THE TIED CARD OF 'laws.FnExactScriptText'. -/
def fnExactScriptTextCard : Claim7 := { stood := { row := fnExactScriptTextRow, standIns := [], harness := (true, "e457d785c98077ded89951d9ccecf8a385f6e71891209c96905af7094baef333"), looks := false }, kinds := [], alts := [], laidByText := true, laidKinds := [.data, .data, .data], laidTests := true, laidLooks := .later }
def FnExactScriptTextCardSaid : Prop := Claim7.holds Tryd.pinned (.plain (OpenSpec.ofChange fnExactScriptTextSpec)) fnExactScriptTextCard

/-- THE TIED CARD OF 'laws.FnReplyLine'. -/
def fnReplyLineCard : Claim7 := { stood := { row := fnReplyLineRow, standIns := [], harness := (true, "e457d785c98077ded89951d9ccecf8a385f6e71891209c96905af7094baef333"), looks := false }, kinds := [], alts := [], laidByText := true, laidKinds := [.data, .data, .data, .data, .pinned], laidTests := true, laidLooks := .later }
def FnReplyLineCardSaid : Prop := Claim7.holds Tryd.pinned (.plain (OpenSpec.ofChange fnReplyLineSpec)) fnReplyLineCard

/-- THE TIED CARD OF 'laws.FnExactReadReq'. -/
def fnExactReadReqCard : Claim7 := { stood := { row := fnExactReadReqRow, standIns := [], harness := (true, "e457d785c98077ded89951d9ccecf8a385f6e71891209c96905af7094baef333"), looks := false }, kinds := [], alts := [], laidByText := true, laidKinds := [.data, .data, .data, .data, .pinned], laidTests := true, laidLooks := .later }
def FnExactReadReqCardSaid : Prop := Claim7.holds Tryd.pinned (.plain (OpenSpec.ofChange fnExactReadReqSpec)) fnExactReadReqCard

/-- THE TIED CARD OF 'laws.FnExactReadScript'. -/
def fnExactReadScriptCard : Claim7 := { stood := { row := fnExactReadScriptRow, standIns := [], harness := (true, "e457d785c98077ded89951d9ccecf8a385f6e71891209c96905af7094baef333"), looks := false }, kinds := [], alts := [], laidByText := true, laidKinds := [.data, .data, .data, .data, .pinned], laidTests := true, laidLooks := .later }
def FnExactReadScriptCardSaid : Prop := Claim7.holds Tryd.pinned (.plain (OpenSpec.ofChange fnExactReadScriptSpec)) fnExactReadScriptCard

/-- THE SECOND FORM's CARD OF 'laws.FnExactReplyLine'. -/
def fnExactReplyLineUptoCard : Claim7 := { stood := { row := fnExactReplyLineUptoRow, standIns := [], harness := (true, "e457d785c98077ded89951d9ccecf8a385f6e71891209c96905af7094baef333"), looks := false }, kinds := [], alts := [], laidByText := true, laidKinds := [.data, .data, .data], laidTests := true, laidLooks := .later }
def FnExactReplyLineUptoCardSaid : Prop := Claim7.holds Tryd.pinned (.plain (OpenSpec.upto fnExactReplyLineSpec)) fnExactReplyLineUptoCard

/-- THE SECOND FORM's CARD OF 'laws.FnExactScriptText'. -/
def fnExactScriptTextUptoCard : Claim7 := { stood := { row := fnExactScriptTextUptoRow, standIns := [], harness := (true, "e457d785c98077ded89951d9ccecf8a385f6e71891209c96905af7094baef333"), looks := false }, kinds := [], alts := [], laidByText := true, laidKinds := [.data, .data, .data], laidTests := true, laidLooks := .later }
def FnExactScriptTextUptoCardSaid : Prop := Claim7.holds Tryd.pinned (.plain (OpenSpec.upto fnExactScriptTextSpec)) fnExactScriptTextUptoCard

/-- THE SECOND FORM's CARD OF 'laws.FnReplyLine'. -/
def fnReplyLineUptoCard : Claim7 := { stood := { row := fnReplyLineUptoRow, standIns := [], harness := (true, "e457d785c98077ded89951d9ccecf8a385f6e71891209c96905af7094baef333"), looks := false }, kinds := [], alts := [], laidByText := true, laidKinds := [.data, .data, .data, .data, .pinned], laidTests := true, laidLooks := .later }
def FnReplyLineUptoCardSaid : Prop := Claim7.holds Tryd.pinned (.plain (OpenSpec.upto fnReplyLineSpec)) fnReplyLineUptoCard

/-- THE SECOND FORM's CARD OF 'laws.FnExactReadReq'. -/
def fnExactReadReqUptoCard : Claim7 := { stood := { row := fnExactReadReqUptoRow, standIns := [], harness := (true, "e457d785c98077ded89951d9ccecf8a385f6e71891209c96905af7094baef333"), looks := false }, kinds := [], alts := [], laidByText := true, laidKinds := [.data, .data, .data, .data, .pinned], laidTests := true, laidLooks := .later }
def FnExactReadReqUptoCardSaid : Prop := Claim7.holds Tryd.pinned (.plain (OpenSpec.upto fnExactReadReqSpec)) fnExactReadReqUptoCard

/-- THE SECOND FORM's CARD OF 'laws.FnExactReadScript'. -/
def fnExactReadScriptUptoCard : Claim7 := { stood := { row := fnExactReadScriptUptoRow, standIns := [], harness := (true, "e457d785c98077ded89951d9ccecf8a385f6e71891209c96905af7094baef333"), looks := false }, kinds := [], alts := [], laidByText := true, laidKinds := [.data, .data, .data, .data, .pinned], laidTests := true, laidLooks := .later }
def FnExactReadScriptUptoCardSaid : Prop := Claim7.holds Tryd.pinned (.plain (OpenSpec.upto fnExactReadScriptSpec)) fnExactReadScriptUptoCard
end Rows
end Go.Proofs.YtpdijcbgdalphaaDoor
