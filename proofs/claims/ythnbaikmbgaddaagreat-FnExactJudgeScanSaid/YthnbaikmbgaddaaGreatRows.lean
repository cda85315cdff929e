/-
  No cell of these rows narrows 'for every input' (looked for: loops, veiled, ifaces, maps, wideKeys, modest, calm, conditions, laid).
  DERIVED. THE GIVEN ROWS OF THIS SEAT. 12 by the template 'for every input the law returns true; each argument reads behind the call as it read before'; 0 by the template 'total and deterministic' (their statements: YthnbaikmbgaddaaGreatTotals.lean).
  GIVEN WITH THE SEED: the statements are not yours to turn. If you find one false, say at which input.
  Laid BY PROGRAM, IN A SANDBOX (cutbox-rows.mjs): the forced cells as the released guide's own fill.sh prints them over the translation fb8c77ae68e8b9df… (all of the seat's roots in one cut). By AI agents, Wed Nov 11 2026. No macro, syntax, notation, axiom, sorry.
-/
import Derived.Test.YthnbaikmbgaddaaGreatChecked
import GoSem.Claim
import GoSem.ClaimJoined
import GoSem.ClaimMapViews
import Derived.JoinedTies
import Derived.KernelRfl
namespace Go.Proofs.YthnbaikmbgaddaaGreat
/- THE CELL 'sum', in the pinned program and in every row, IS THE sha256 OF THE DUMP (.gsa) THAT YthnbaikmbgaddaaGreatProg.lean LOADS. Nothing in Lean hashes anything: it is a label: what it is worth is what the hold of that sum in a sandbox is worth. -/
noncomputable def Tryz.pinned : Pinned := { name := "ythnbaikmbgaddaagreat", sum := "fb8c77ae68e8b9dfd3a3e0bd459a686190ab44007c7b4004ebd9c026e6db545d", checked := Tryz.checked }
namespace Rows
def none {H : Type} : Left H := { results := [], args := [] }

/-- 'laws.FnSoldFold': WHATEVER THE INPUT: true; the input reads as it did. -/
def fnSoldFoldSpec : ChangeSpec := { name := "fnSoldFold", fn := fun _ => fun
  | [d] => { results := [.lit (.bool true)], args := [d] }
  | _ => none }
def fnSoldFoldRow : OpenClaim := { program := "ythnbaikmbgaddaagreat", sum := "fb8c77ae68e8b9dfd3a3e0bd459a686190ab44007c7b4004ebd9c026e6db545d", func := "loop.example/g00494/laws.FnSoldFold", spec := "fnSoldFold", unfollowed := true, recurses := true, apart := false }
def FnSoldFoldSaid : Prop := fnSoldFoldRow.holds Tryz.pinned (OpenSpec.ofChange fnSoldFoldSpec)

/-- ITS FALSE NEIGHBOUR: 'it returns false'. Refute it at one input. -/
def fnSoldFoldWrong : ChangeSpec := { name := "fnSoldFold", fn := fun _ => fun
  | [d] => { results := [.lit (.bool false)], args := [d] }
  | _ => none }
def FnSoldFoldWrongFalsely : Prop := fnSoldFoldRow.holds Tryz.pinned (OpenSpec.ofChange fnSoldFoldWrong)

/-- 'laws.FnAcceptAll': WHATEVER THE INPUT: true; the input reads as it did. -/
def fnAcceptAllSpec : ChangeSpec := { name := "fnAcceptAll", fn := fun _ => fun
  | [d] => { results := [.lit (.bool true)], args := [d] }
  | _ => none }
def fnAcceptAllRow : OpenClaim := { program := "ythnbaikmbgaddaagreat", sum := "fb8c77ae68e8b9dfd3a3e0bd459a686190ab44007c7b4004ebd9c026e6db545d", func := "loop.example/g00494/laws.FnAcceptAll", spec := "fnAcceptAll", unfollowed := true, recurses := true, apart := false }
def FnAcceptAllSaid : Prop := fnAcceptAllRow.holds Tryz.pinned (OpenSpec.ofChange fnAcceptAllSpec)

/-- ITS FALSE NEIGHBOUR: 'it returns false'. Refute it at one input. -/
def fnAcceptAllWrong : ChangeSpec := { name := "fnAcceptAll", fn := fun _ => fun
  | [d] => { results := [.lit (.bool false)], args := [d] }
  | _ => none }
def FnAcceptAllWrongFalsely : Prop := fnAcceptAllRow.holds Tryz.pinned (OpenSpec.ofChange fnAcceptAllWrong)

/-- 'laws.FnExactChance': WHATEVER THE INPUT: true; the input reads as it did. -/
def fnExactChanceSpec : ChangeSpec := { name := "fnExactChance", fn := fun _ => fun
  | [d1, d2] => { results := [.lit (.bool true)], args := [d1, d2] }
  | _ => none }
def fnExactChanceRow : OpenClaim := { program := "ythnbaikmbgaddaagreat", sum := "fb8c77ae68e8b9dfd3a3e0bd459a686190ab44007c7b4004ebd9c026e6db545d", func := "loop.example/g00494/laws.FnExactChance", spec := "fnExactChance", inPlace := ["slices.overlaps[loop.example/g00494/impl.Party]", "slices.overlaps[loop.example/g00494/impl.Entry]"], unfollowed := true, recurses := true, apart := false }
def FnExactChanceSaid : Prop := fnExactChanceRow.holds Tryz.pinned (OpenSpec.ofChange fnExactChanceSpec)

/-- ITS FALSE NEIGHBOUR: 'it returns false'. Refute it at one input. -/
def fnExactChanceWrong : ChangeSpec := { name := "fnExactChance", fn := fun _ => fun
  | [d1, d2] => { results := [.lit (.bool false)], args := [d1, d2] }
  | _ => none }
def FnExactChanceWrongFalsely : Prop := fnExactChanceRow.holds Tryz.pinned (OpenSpec.ofChange fnExactChanceWrong)

/-- 'laws.FnJudge': WHATEVER THE INPUT: true; the input reads as it did. -/
def fnJudgeSpec : ChangeSpec := { name := "fnJudge", fn := fun _ => fun
  | [d] => { results := [.lit (.bool true)], args := [d] }
  | _ => none }
def fnJudgeRow : OpenClaim := { program := "ythnbaikmbgaddaagreat", sum := "fb8c77ae68e8b9dfd3a3e0bd459a686190ab44007c7b4004ebd9c026e6db545d", func := "loop.example/g00494/laws.FnJudge", spec := "fnJudge", inPlace := ["slices.overlaps[loop.example/g00494/impl.Party]", "slices.overlaps[loop.example/g00494/impl.Entry]", "slices.overlaps[loop.example/g00494/impl.Pin]"], unfollowed := true, recurses := true, apart := false }
def FnJudgeSaid : Prop := fnJudgeRow.holds Tryz.pinned (OpenSpec.ofChange fnJudgeSpec)

/-- ITS FALSE NEIGHBOUR: 'it returns false'. Refute it at one input. -/
def fnJudgeWrong : ChangeSpec := { name := "fnJudge", fn := fun _ => fun
  | [d] => { results := [.lit (.bool false)], args := [d] }
  | _ => none }
def FnJudgeWrongFalsely : Prop := fnJudgeRow.holds Tryz.pinned (OpenSpec.ofChange fnJudgeWrong)

/-- 'laws.FnRound': WHATEVER THE INPUT: true; the input reads as it did. -/
def fnRoundSpec : ChangeSpec := { name := "fnRound", fn := fun _ => fun
  | [d] => { results := [.lit (.bool true)], args := [d] }
  | _ => none }
def fnRoundRow : OpenClaim := { program := "ythnbaikmbgaddaagreat", sum := "fb8c77ae68e8b9dfd3a3e0bd459a686190ab44007c7b4004ebd9c026e6db545d", func := "loop.example/g00494/laws.FnRound", spec := "fnRound", inPlace := ["slices.overlaps[loop.example/g00494/impl.Party]", "slices.overlaps[loop.example/g00494/impl.Entry]", "slices.overlaps[loop.example/g00494/impl.Pin]"], unfollowed := true, recurses := true, apart := false }
def FnRoundSaid : Prop := fnRoundRow.holds Tryz.pinned (OpenSpec.ofChange fnRoundSpec)

/-- ITS FALSE NEIGHBOUR: 'it returns false'. Refute it at one input. -/
def fnRoundWrong : ChangeSpec := { name := "fnRound", fn := fun _ => fun
  | [d] => { results := [.lit (.bool false)], args := [d] }
  | _ => none }
def FnRoundWrongFalsely : Prop := fnRoundRow.holds Tryz.pinned (OpenSpec.ofChange fnRoundWrong)

/-- 'laws.FnExactJudgeScan': WHATEVER THE INPUT: true; the input reads as it did. -/
def fnExactJudgeScanSpec : ChangeSpec := { name := "fnExactJudgeScan", fn := fun _ => fun
  | [d1, d2, d3] => { results := [.lit (.bool true)], args := [d1, d2, d3] }
  | _ => none }
def fnExactJudgeScanRow : OpenClaim := { program := "ythnbaikmbgaddaagreat", sum := "fb8c77ae68e8b9dfd3a3e0bd459a686190ab44007c7b4004ebd9c026e6db545d", func := "loop.example/g00494/laws.FnExactJudgeScan", spec := "fnExactJudgeScan", inPlace := ["slices.overlaps[loop.example/g00494/impl.Party]", "slices.overlaps[loop.example/g00494/impl.Entry]", "slices.overlaps[loop.example/g00494/impl.Pin]"], unfollowed := true, recurses := true, apart := false }
def FnExactJudgeScanSaid : Prop := fnExactJudgeScanRow.holds Tryz.pinned (OpenSpec.ofChange fnExactJudgeScanSpec)

/-- ITS FALSE NEIGHBOUR: 'it returns false'. Refute it at one input. -/
def fnExactJudgeScanWrong : ChangeSpec := { name := "fnExactJudgeScan", fn := fun _ => fun
  | [d1, d2, d3] => { results := [.lit (.bool false)], args := [d1, d2, d3] }
  | _ => none }
def FnExactJudgeScanWrongFalsely : Prop := fnExactJudgeScanRow.holds Tryz.pinned (OpenSpec.ofChange fnExactJudgeScanWrong)

/-- 'laws.FnExactAcceptAll': WHATEVER THE INPUT: true; the input reads as it did. -/
def fnExactAcceptAllSpec : ChangeSpec := { name := "fnExactAcceptAll", fn := fun _ => fun
  | [d] => { results := [.lit (.bool true)], args := [d] }
  | _ => none }
def fnExactAcceptAllRow : OpenClaim := { program := "ythnbaikmbgaddaagreat", sum := "fb8c77ae68e8b9dfd3a3e0bd459a686190ab44007c7b4004ebd9c026e6db545d", func := "loop.example/g00494/laws.FnExactAcceptAll", spec := "fnExactAcceptAll", unfollowed := true, recurses := true, apart := false }
def FnExactAcceptAllSaid : Prop := fnExactAcceptAllRow.holds Tryz.pinned (OpenSpec.ofChange fnExactAcceptAllSpec)

/-- ITS FALSE NEIGHBOUR: 'it returns false'. Refute it at one input. -/
def fnExactAcceptAllWrong : ChangeSpec := { name := "fnExactAcceptAll", fn := fun _ => fun
  | [d] => { results := [.lit (.bool false)], args := [d] }
  | _ => none }
def FnExactAcceptAllWrongFalsely : Prop := fnExactAcceptAllRow.holds Tryz.pinned (OpenSpec.ofChange fnExactAcceptAllWrong)

/-- 'laws.FnExactDrained': WHATEVER THE INPUT: true; the input reads as it did. -/
def fnExactDrainedSpec : ChangeSpec := { name := "fnExactDrained", fn := fun _ => fun
  | [d] => { results := [.lit (.bool true)], args := [d] }
  | _ => none }
def fnExactDrainedRow : OpenClaim := { program := "ythnbaikmbgaddaagreat", sum := "fb8c77ae68e8b9dfd3a3e0bd459a686190ab44007c7b4004ebd9c026e6db545d", func := "loop.example/g00494/laws.FnExactDrained", spec := "fnExactDrained", inPlace := ["slices.overlaps[loop.example/g00494/impl.Party]", "slices.overlaps[loop.example/g00494/impl.Entry]", "slices.overlaps[loop.example/g00494/impl.Pin]"], unfollowed := true, recurses := true, apart := false }
def FnExactDrainedSaid : Prop := fnExactDrainedRow.holds Tryz.pinned (OpenSpec.ofChange fnExactDrainedSpec)

/-- ITS FALSE NEIGHBOUR: 'it returns false'. Refute it at one input. -/
def fnExactDrainedWrong : ChangeSpec := { name := "fnExactDrained", fn := fun _ => fun
  | [d] => { results := [.lit (.bool false)], args := [d] }
  | _ => none }
def FnExactDrainedWrongFalsely : Prop := fnExactDrainedRow.holds Tryz.pinned (OpenSpec.ofChange fnExactDrainedWrong)

/-- 'laws.FnExactRound': WHATEVER THE INPUT: true; the input reads as it did. -/
def fnExactRoundSpec : ChangeSpec := { name := "fnExactRound", fn := fun _ => fun
  | [d] => { results := [.lit (.bool true)], args := [d] }
  | _ => none }
def fnExactRoundRow : OpenClaim := { program := "ythnbaikmbgaddaagreat", sum := "fb8c77ae68e8b9dfd3a3e0bd459a686190ab44007c7b4004ebd9c026e6db545d", func := "loop.example/g00494/laws.FnExactRound", spec := "fnExactRound", inPlace := ["slices.overlaps[loop.example/g00494/impl.Party]", "slices.overlaps[loop.example/g00494/impl.Entry]", "slices.overlaps[loop.example/g00494/impl.Pin]"], unfollowed := true, recurses := true, apart := false }
def FnExactRoundSaid : Prop := fnExactRoundRow.holds Tryz.pinned (OpenSpec.ofChange fnExactRoundSpec)

/-- ITS FALSE NEIGHBOUR: 'it returns false'. Refute it at one input. -/
def fnExactRoundWrong : ChangeSpec := { name := "fnExactRound", fn := fun _ => fun
  | [d] => { results := [.lit (.bool false)], args := [d] }
  | _ => none }
def FnExactRoundWrongFalsely : Prop := fnExactRoundRow.holds Tryz.pinned (OpenSpec.ofChange fnExactRoundWrong)

/-- 'laws.FnExactSettle': WHATEVER THE INPUT: true; the input reads as it did. -/
def fnExactSettleSpec : ChangeSpec := { name := "fnExactSettle", fn := fun _ => fun
  | [d1, d2] => { results := [.lit (.bool true)], args := [d1, d2] }
  | _ => none }
def fnExactSettleRow : OpenClaim := { program := "ythnbaikmbgaddaagreat", sum := "fb8c77ae68e8b9dfd3a3e0bd459a686190ab44007c7b4004ebd9c026e6db545d", func := "loop.example/g00494/laws.FnExactSettle", spec := "fnExactSettle", inPlace := ["slices.overlaps[loop.example/g00494/impl.Party]", "slices.overlaps[loop.example/g00494/impl.Entry]", "slices.overlaps[loop.example/g00494/impl.Pin]"], unfollowed := true, recurses := true, apart := false }
def FnExactSettleSaid : Prop := fnExactSettleRow.holds Tryz.pinned (OpenSpec.ofChange fnExactSettleSpec)

/-- ITS FALSE NEIGHBOUR: 'it returns false'. Refute it at one input. -/
def fnExactSettleWrong : ChangeSpec := { name := "fnExactSettle", fn := fun _ => fun
  | [d1, d2] => { results := [.lit (.bool false)], args := [d1, d2] }
  | _ => none }
def FnExactSettleWrongFalsely : Prop := fnExactSettleRow.holds Tryz.pinned (OpenSpec.ofChange fnExactSettleWrong)

/-- 'laws.FnSettled': WHATEVER THE INPUT: true; the input reads as it did. -/
def fnSettledSpec : ChangeSpec := { name := "fnSettled", fn := fun _ => fun
  | [d] => { results := [.lit (.bool true)], args := [d] }
  | _ => none }
def fnSettledRow : OpenClaim := { program := "ythnbaikmbgaddaagreat", sum := "fb8c77ae68e8b9dfd3a3e0bd459a686190ab44007c7b4004ebd9c026e6db545d", func := "loop.example/g00494/laws.FnSettled", spec := "fnSettled", inPlace := ["slices.overlaps[loop.example/g00494/impl.Party]", "slices.overlaps[loop.example/g00494/impl.Entry]", "slices.overlaps[loop.example/g00494/impl.Pin]"], unfollowed := true, recurses := true, apart := false }
def FnSettledSaid : Prop := fnSettledRow.holds Tryz.pinned (OpenSpec.ofChange fnSettledSpec)

/-- ITS FALSE NEIGHBOUR: 'it returns false'. Refute it at one input. -/
def fnSettledWrong : ChangeSpec := { name := "fnSettled", fn := fun _ => fun
  | [d] => { results := [.lit (.bool false)], args := [d] }
  | _ => none }
def FnSettledWrongFalsely : Prop := fnSettledRow.holds Tryz.pinned (OpenSpec.ofChange fnSettledWrong)

/-- 'laws.FnChain': WHATEVER THE INPUT: true; the input reads as it did. -/
def fnChainSpec : ChangeSpec := { name := "fnChain", fn := fun _ => fun
  | [d] => { results := [.lit (.bool true)], args := [d] }
  | _ => none }
def fnChainRow : OpenClaim := { program := "ythnbaikmbgaddaagreat", sum := "fb8c77ae68e8b9dfd3a3e0bd459a686190ab44007c7b4004ebd9c026e6db545d", func := "loop.example/g00494/laws.FnChain", spec := "fnChain", inPlace := ["slices.overlaps[loop.example/g00494/impl.Party]", "slices.overlaps[loop.example/g00494/impl.Entry]", "slices.overlaps[loop.example/g00494/impl.Pin]"], unfollowed := true, recurses := true, apart := false }
def FnChainSaid : Prop := fnChainRow.holds Tryz.pinned (OpenSpec.ofChange fnChainSpec)

/-- ITS FALSE NEIGHBOUR: 'it returns false'. Refute it at one input. -/
def fnChainWrong : ChangeSpec := { name := "fnChain", fn := fun _ => fun
  | [d] => { results := [.lit (.bool false)], args := [d] }
  | _ => none }
def FnChainWrongFalsely : Prop := fnChainRow.holds Tryz.pinned (OpenSpec.ofChange fnChainWrong)

/- THE SECOND FORM. 'bulk': how many values and letters a reading holds, each counted each time it is reached (what is shared counts as often as it is met; a slice's spare places count too). A statement '..UptoSaid' is the law's where the arguments, and the package variables that the reading takes, are together of bulk at most 1048576: NARROWER than '..Said'. Prove '..Said' where nothing that the law and all that it calls make is longer than what came in: it says more and counts as full. Else prove '..UptoSaid'. A law counts once. -/
mutual
def uptoBulk {H : Type} : DataW H → Nat
  | .lit (.string bytes) => bytes.length + 1
  | .lit _ => 1
  | .nil => 1
  | .ptr d => uptoBulk d + 1
  | .slice elems spare => uptoBulkAll elems + uptoBulkAll spare + 1
  | .agg parts => uptoBulkAll parts + 1
  | .iface _ d => uptoBulk d + 1
  | .map entries => uptoBulkEntries entries + 1
  | .held _ => 1
def uptoBulkAll {H : Type} : List (DataW H) → Nat
  | [] => 0
  | d :: r => uptoBulk d + uptoBulkAll r
def uptoBulkEntries {H : Type} : List (Lit × DataW H) → Nat
  | [] => 0
  | x :: r => uptoBulkEntry x + uptoBulkEntries r
def uptoBulkEntry {H : Type} : Lit × DataW H → Nat
  | (.string bytes, d) => bytes.length + uptoBulk d + 1
  | (_, d) => uptoBulk d + 1
 end
def uptoSmall : (H : Type) → List (DataW H) → Bool := fun _ ds => decide (uptoBulkAll ds ≤ 1048576)
def OpenSpec.upto (s : _root_.Go.ChangeSpec) : _root_.Go.OpenSpec := { _root_.Go.OpenSpec.ofChange s with cond := some uptoSmall }

/-- 'laws.FnSoldFold', WHERE WHAT IT READS IS OF BULK AT MOST 1048576: true; the input reads as it did. -/
def fnSoldFoldUptoRow : OpenClaim := { program := "ythnbaikmbgaddaagreat", sum := "fb8c77ae68e8b9dfd3a3e0bd459a686190ab44007c7b4004ebd9c026e6db545d", func := "loop.example/g00494/laws.FnSoldFold", spec := "fnSoldFold", unfollowed := true, recurses := true, apart := false, narrowed := true }
def FnSoldFoldUptoSaid : Prop := fnSoldFoldUptoRow.holds Tryz.pinned (OpenSpec.upto fnSoldFoldSpec)

/-- 'laws.FnAcceptAll', WHERE WHAT IT READS IS OF BULK AT MOST 1048576: true; the input reads as it did. -/
def fnAcceptAllUptoRow : OpenClaim := { program := "ythnbaikmbgaddaagreat", sum := "fb8c77ae68e8b9dfd3a3e0bd459a686190ab44007c7b4004ebd9c026e6db545d", func := "loop.example/g00494/laws.FnAcceptAll", spec := "fnAcceptAll", unfollowed := true, recurses := true, apart := false, narrowed := true }
def FnAcceptAllUptoSaid : Prop := fnAcceptAllUptoRow.holds Tryz.pinned (OpenSpec.upto fnAcceptAllSpec)

/-- 'laws.FnExactChance', WHERE WHAT IT READS IS OF BULK AT MOST 1048576: true; the input reads as it did. -/
def fnExactChanceUptoRow : OpenClaim := { program := "ythnbaikmbgaddaagreat", sum := "fb8c77ae68e8b9dfd3a3e0bd459a686190ab44007c7b4004ebd9c026e6db545d", func := "loop.example/g00494/laws.FnExactChance", spec := "fnExactChance", inPlace := ["slices.overlaps[loop.example/g00494/impl.Party]", "slices.overlaps[loop.example/g00494/impl.Entry]"], unfollowed := true, recurses := true, apart := false, narrowed := true }
def FnExactChanceUptoSaid : Prop := fnExactChanceUptoRow.holds Tryz.pinned (OpenSpec.upto fnExactChanceSpec)

/-- 'laws.FnJudge', WHERE WHAT IT READS IS OF BULK AT MOST 1048576: true; the input reads as it did. -/
def fnJudgeUptoRow : OpenClaim := { program := "ythnbaikmbgaddaagreat", sum := "fb8c77ae68e8b9dfd3a3e0bd459a686190ab44007c7b4004ebd9c026e6db545d", func := "loop.example/g00494/laws.FnJudge", spec := "fnJudge", inPlace := ["slices.overlaps[loop.example/g00494/impl.Party]", "slices.overlaps[loop.example/g00494/impl.Entry]", "slices.overlaps[loop.example/g00494/impl.Pin]"], unfollowed := true, recurses := true, apart := false, narrowed := true }
def FnJudgeUptoSaid : Prop := fnJudgeUptoRow.holds Tryz.pinned (OpenSpec.upto fnJudgeSpec)

/-- 'laws.FnRound', WHERE WHAT IT READS IS OF BULK AT MOST 1048576: true; the input reads as it did. -/
def fnRoundUptoRow : OpenClaim := { program := "ythnbaikmbgaddaagreat", sum := "fb8c77ae68e8b9dfd3a3e0bd459a686190ab44007c7b4004ebd9c026e6db545d", func := "loop.example/g00494/laws.FnRound", spec := "fnRound", inPlace := ["slices.overlaps[loop.example/g00494/impl.Party]", "slices.overlaps[loop.example/g00494/impl.Entry]", "slices.overlaps[loop.example/g00494/impl.Pin]"], unfollowed := true, recurses := true, apart := false, narrowed := true }
def FnRoundUptoSaid : Prop := fnRoundUptoRow.holds Tryz.pinned (OpenSpec.upto fnRoundSpec)

/-- 'laws.FnExactJudgeScan', WHERE WHAT IT READS IS OF BULK AT MOST 1048576: true; the input reads as it did. -/
def fnExactJudgeScanUptoRow : OpenClaim := { program := "ythnbaikmbgaddaagreat", sum := "fb8c77ae68e8b9dfd3a3e0bd459a686190ab44007c7b4004ebd9c026e6db545d", func := "loop.example/g00494/laws.FnExactJudgeScan", spec := "fnExactJudgeScan", inPlace := ["slices.overlaps[loop.example/g00494/impl.Party]", "slices.overlaps[loop.example/g00494/impl.Entry]", "slices.overlaps[loop.example/g00494/impl.Pin]"], unfollowed := true, recurses := true, apart := false, narrowed := true }
def FnExactJudgeScanUptoSaid : Prop := fnExactJudgeScanUptoRow.holds Tryz.pinned (OpenSpec.upto fnExactJudgeScanSpec)

/-- 'laws.FnExactAcceptAll', WHERE WHAT IT READS IS OF BULK AT MOST 1048576: true; the input reads as it did. -/
def fnExactAcceptAllUptoRow : OpenClaim := { program := "ythnbaikmbgaddaagreat", sum := "fb8c77ae68e8b9dfd3a3e0bd459a686190ab44007c7b4004ebd9c026e6db545d", func := "loop.example/g00494/laws.FnExactAcceptAll", spec := "fnExactAcceptAll", unfollowed := true, recurses := true, apart := false, narrowed := true }
def FnExactAcceptAllUptoSaid : Prop := fnExactAcceptAllUptoRow.holds Tryz.pinned (OpenSpec.upto fnExactAcceptAllSpec)

/-- 'laws.FnExactDrained', WHERE WHAT IT READS IS OF BULK AT MOST 1048576: true; the input reads as it did. -/
def fnExactDrainedUptoRow : OpenClaim := { program := "ythnbaikmbgaddaagreat", sum := "fb8c77ae68e8b9dfd3a3e0bd459a686190ab44007c7b4004ebd9c026e6db545d", func := "loop.example/g00494/laws.FnExactDrained", spec := "fnExactDrained", inPlace := ["slices.overlaps[loop.example/g00494/impl.Party]", "slices.overlaps[loop.example/g00494/impl.Entry]", "slices.overlaps[loop.example/g00494/impl.Pin]"], unfollowed := true, recurses := true, apart := false, narrowed := true }
def FnExactDrainedUptoSaid : Prop := fnExactDrainedUptoRow.holds Tryz.pinned (OpenSpec.upto fnExactDrainedSpec)

/-- 'laws.FnExactRound', WHERE WHAT IT READS IS OF BULK AT MOST 1048576: true; the input reads as it did. -/
def fnExactRoundUptoRow : OpenClaim := { program := "ythnbaikmbgaddaagreat", sum := "fb8c77ae68e8b9dfd3a3e0bd459a686190ab44007c7b4004ebd9c026e6db545d", func := "loop.example/g00494/laws.FnExactRound", spec := "fnExactRound", inPlace := ["slices.overlaps[loop.example/g00494/impl.Party]", "slices.overlaps[loop.example/g00494/impl.Entry]", "slices.overlaps[loop.example/g00494/impl.Pin]"], unfollowed := true, recurses := true, apart := false, narrowed := true }
def FnExactRoundUptoSaid : Prop := fnExactRoundUptoRow.holds Tryz.pinned (OpenSpec.upto fnExactRoundSpec)

/-- 'laws.FnExactSettle', WHERE WHAT IT READS IS OF BULK AT MOST 1048576: true; the input reads as it did. -/
def fnExactSettleUptoRow : OpenClaim := { program := "ythnbaikmbgaddaagreat", sum := "fb8c77ae68e8b9dfd3a3e0bd459a686190ab44007c7b4004ebd9c026e6db545d", func := "loop.example/g00494/laws.FnExactSettle", spec := "fnExactSettle", inPlace := ["slices.overlaps[loop.example/g00494/impl.Party]", "slices.overlaps[loop.example/g00494/impl.Entry]", "slices.overlaps[loop.example/g00494/impl.Pin]"], unfollowed := true, recurses := true, apart := false, narrowed := true }
def FnExactSettleUptoSaid : Prop := fnExactSettleUptoRow.holds Tryz.pinned (OpenSpec.upto fnExactSettleSpec)

/-- 'laws.FnSettled', WHERE WHAT IT READS IS OF BULK AT MOST 1048576: true; the input reads as it did. -/
def fnSettledUptoRow : OpenClaim := { program := "ythnbaikmbgaddaagreat", sum := "fb8c77ae68e8b9dfd3a3e0bd459a686190ab44007c7b4004ebd9c026e6db545d", func := "loop.example/g00494/laws.FnSettled", spec := "fnSettled", inPlace := ["slices.overlaps[loop.example/g00494/impl.Party]", "slices.overlaps[loop.example/g00494/impl.Entry]", "slices.overlaps[loop.example/g00494/impl.Pin]"], unfollowed := true, recurses := true, apart := false, narrowed := true }
def FnSettledUptoSaid : Prop := fnSettledUptoRow.holds Tryz.pinned (OpenSpec.upto fnSettledSpec)

/-- 'laws.FnChain', WHERE WHAT IT READS IS OF BULK AT MOST 1048576: true; the input reads as it did. -/
def fnChainUptoRow : OpenClaim := { program := "ythnbaikmbgaddaagreat", sum := "fb8c77ae68e8b9dfd3a3e0bd459a686190ab44007c7b4004ebd9c026e6db545d", func := "loop.example/g00494/laws.FnChain", spec := "fnChain", inPlace := ["slices.overlaps[loop.example/g00494/impl.Party]", "slices.overlaps[loop.example/g00494/impl.Entry]", "slices.overlaps[loop.example/g00494/impl.Pin]"], unfollowed := true, recurses := true, apart := false, narrowed := true }
def FnChainUptoSaid : Prop := fnChainUptoRow.holds Tryz.pinned (OpenSpec.upto fnChainSpec)

end Rows
end Go.Proofs.YthnbaikmbgaddaaGreat
