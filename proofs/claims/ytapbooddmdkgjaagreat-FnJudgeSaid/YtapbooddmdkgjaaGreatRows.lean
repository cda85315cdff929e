/-
  No cell of these rows narrows 'for every input' (looked for: loops, veiled, ifaces, maps, wideKeys, modest, calm, conditions, laid).
  DERIVED. THE GIVEN ROWS OF THIS SEAT. 8 by the template 'for every input the law returns true; each argument reads behind the call as it read before'; 0 by the template 'total and deterministic' (their statements: YtapbooddmdkgjaaGreatTotals.lean).
  GIVEN WITH THE SEED: the statements are not yours to turn. If you find one false, say at which input.
  Laid BY PROGRAM, IN A SANDBOX (cutbox-rows.mjs): the forced cells as the released guide's own fill.sh prints them over the translation 52f326643163a43b… (all of the seat's roots in one cut). By AI agents, Wed Nov 11 2026. No macro, syntax, notation, axiom, sorry.
-/
import Derived.Test.YtapbooddmdkgjaaGreatChecked
import GoSem.Claim
import GoSem.ClaimJoined
import GoSem.ClaimMapViews
import Derived.JoinedTies
import Derived.KernelRfl
namespace Go.Proofs.YtapbooddmdkgjaaGreat
/- THE CELL 'sum', in the pinned program and in every row, IS THE sha256 OF THE DUMP (.gsa) THAT YtapbooddmdkgjaaGreatProg.lean LOADS. Nothing in Lean hashes anything: it is a label: what it is worth is what the hold of that sum in a sandbox is worth. -/
noncomputable def Tryz.pinned : Pinned := { name := "ytapbooddmdkgjaagreat", sum := "52f326643163a43bf1eb6a77f768a24b2b09376b8df86ec920b0b55eeb2a727b", checked := Tryz.checked }
namespace Rows
def none {H : Type} : Left H := { results := [], args := [] }

/-- 'laws.FnExactMissed': WHATEVER THE INPUT: true; the input reads as it did. -/
def fnExactMissedSpec : ChangeSpec := { name := "fnExactMissed", fn := fun _ => fun
  | [d1, d2, d3] => { results := [.lit (.bool true)], args := [d1, d2, d3] }
  | _ => none }
def fnExactMissedRow : OpenClaim := { program := "ytapbooddmdkgjaagreat", sum := "52f326643163a43bf1eb6a77f768a24b2b09376b8df86ec920b0b55eeb2a727b", func := "loop.example/g00494/laws.FnExactMissed", spec := "fnExactMissed", inPlace := ["slices.overlaps[loop.example/g00494/impl.Party]", "slices.overlaps[loop.example/g00494/impl.Entry]", "slices.overlaps[loop.example/g00494/impl.Pin]"], unfollowed := true, recurses := true, apart := false }
def FnExactMissedSaid : Prop := fnExactMissedRow.holds Tryz.pinned (OpenSpec.ofChange fnExactMissedSpec)

/-- ITS FALSE NEIGHBOUR: 'it returns false'. Refute it at one input. -/
def fnExactMissedWrong : ChangeSpec := { name := "fnExactMissed", fn := fun _ => fun
  | [d1, d2, d3] => { results := [.lit (.bool false)], args := [d1, d2, d3] }
  | _ => none }
def FnExactMissedWrongFalsely : Prop := fnExactMissedRow.holds Tryz.pinned (OpenSpec.ofChange fnExactMissedWrong)

/-- 'laws.FnExactUnkept': WHATEVER THE INPUT: true; the input reads as it did. -/
def fnExactUnkeptSpec : ChangeSpec := { name := "fnExactUnkept", fn := fun _ => fun
  | [d1, d2] => { results := [.lit (.bool true)], args := [d1, d2] }
  | _ => none }
def fnExactUnkeptRow : OpenClaim := { program := "ytapbooddmdkgjaagreat", sum := "52f326643163a43bf1eb6a77f768a24b2b09376b8df86ec920b0b55eeb2a727b", func := "loop.example/g00494/laws.FnExactUnkept", spec := "fnExactUnkept", inPlace := ["slices.overlaps[loop.example/g00494/impl.Party]", "slices.overlaps[loop.example/g00494/impl.Entry]", "slices.overlaps[loop.example/g00494/impl.Pin]"], unfollowed := true, recurses := true, apart := false }
def FnExactUnkeptSaid : Prop := fnExactUnkeptRow.holds Tryz.pinned (OpenSpec.ofChange fnExactUnkeptSpec)

/-- ITS FALSE NEIGHBOUR: 'it returns false'. Refute it at one input. -/
def fnExactUnkeptWrong : ChangeSpec := { name := "fnExactUnkept", fn := fun _ => fun
  | [d1, d2] => { results := [.lit (.bool false)], args := [d1, d2] }
  | _ => none }
def FnExactUnkeptWrongFalsely : Prop := fnExactUnkeptRow.holds Tryz.pinned (OpenSpec.ofChange fnExactUnkeptWrong)

/-- 'laws.FnAcceptAll': WHATEVER THE INPUT: true; the input reads as it did. -/
def fnAcceptAllSpec : ChangeSpec := { name := "fnAcceptAll", fn := fun _ => fun
  | [d] => { results := [.lit (.bool true)], args := [d] }
  | _ => none }
def fnAcceptAllRow : OpenClaim := { program := "ytapbooddmdkgjaagreat", sum := "52f326643163a43bf1eb6a77f768a24b2b09376b8df86ec920b0b55eeb2a727b", func := "loop.example/g00494/laws.FnAcceptAll", spec := "fnAcceptAll", unfollowed := true, recurses := true, apart := false }
def FnAcceptAllSaid : Prop := fnAcceptAllRow.holds Tryz.pinned (OpenSpec.ofChange fnAcceptAllSpec)

/-- ITS FALSE NEIGHBOUR: 'it returns false'. Refute it at one input. -/
def fnAcceptAllWrong : ChangeSpec := { name := "fnAcceptAll", fn := fun _ => fun
  | [d] => { results := [.lit (.bool false)], args := [d] }
  | _ => none }
def FnAcceptAllWrongFalsely : Prop := fnAcceptAllRow.holds Tryz.pinned (OpenSpec.ofChange fnAcceptAllWrong)

/-- 'laws.FnJudge': WHATEVER THE INPUT: true; the input reads as it did. -/
def fnJudgeSpec : ChangeSpec := { name := "fnJudge", fn := fun _ => fun
  | [d] => { results := [.lit (.bool true)], args := [d] }
  | _ => none }
def fnJudgeRow : OpenClaim := { program := "ytapbooddmdkgjaagreat", sum := "52f326643163a43bf1eb6a77f768a24b2b09376b8df86ec920b0b55eeb2a727b", func := "loop.example/g00494/laws.FnJudge", spec := "fnJudge", inPlace := ["slices.overlaps[loop.example/g00494/impl.Party]", "slices.overlaps[loop.example/g00494/impl.Entry]", "slices.overlaps[loop.example/g00494/impl.Pin]"], unfollowed := true, recurses := true, apart := false }
def FnJudgeSaid : Prop := fnJudgeRow.holds Tryz.pinned (OpenSpec.ofChange fnJudgeSpec)

/-- ITS FALSE NEIGHBOUR: 'it returns false'. Refute it at one input. -/
def fnJudgeWrong : ChangeSpec := { name := "fnJudge", fn := fun _ => fun
  | [d] => { results := [.lit (.bool false)], args := [d] }
  | _ => none }
def FnJudgeWrongFalsely : Prop := fnJudgeRow.holds Tryz.pinned (OpenSpec.ofChange fnJudgeWrong)

/-- 'laws.FnRound': WHATEVER THE INPUT: true; the input reads as it did. -/
def fnRoundSpec : ChangeSpec := { name := "fnRound", fn := fun _ => fun
  | [d] => { results := [.lit (.bool true)], args := [d] }
  | _ => none }
def fnRoundRow : OpenClaim := { program := "ytapbooddmdkgjaagreat", sum := "52f326643163a43bf1eb6a77f768a24b2b09376b8df86ec920b0b55eeb2a727b", func := "loop.example/g00494/laws.FnRound", spec := "fnRound", inPlace := ["slices.overlaps[loop.example/g00494/impl.Party]", "slices.overlaps[loop.example/g00494/impl.Entry]", "slices.overlaps[loop.example/g00494/impl.Pin]"], unfollowed := true, recurses := true, apart := false }
def FnRoundSaid : Prop := fnRoundRow.holds Tryz.pinned (OpenSpec.ofChange fnRoundSpec)

/-- ITS FALSE NEIGHBOUR: 'it returns false'. Refute it at one input. -/
def fnRoundWrong : ChangeSpec := { name := "fnRound", fn := fun _ => fun
  | [d] => { results := [.lit (.bool false)], args := [d] }
  | _ => none }
def FnRoundWrongFalsely : Prop := fnRoundRow.holds Tryz.pinned (OpenSpec.ofChange fnRoundWrong)

/-- 'laws.FnSettled': WHATEVER THE INPUT: true; the input reads as it did. -/
def fnSettledSpec : ChangeSpec := { name := "fnSettled", fn := fun _ => fun
  | [d] => { results := [.lit (.bool true)], args := [d] }
  | _ => none }
def fnSettledRow : OpenClaim := { program := "ytapbooddmdkgjaagreat", sum := "52f326643163a43bf1eb6a77f768a24b2b09376b8df86ec920b0b55eeb2a727b", func := "loop.example/g00494/laws.FnSettled", spec := "fnSettled", inPlace := ["slices.overlaps[loop.example/g00494/impl.Party]", "slices.overlaps[loop.example/g00494/impl.Entry]", "slices.overlaps[loop.example/g00494/impl.Pin]"], unfollowed := true, recurses := true, apart := false }
def FnSettledSaid : Prop := fnSettledRow.holds Tryz.pinned (OpenSpec.ofChange fnSettledSpec)

/-- ITS FALSE NEIGHBOUR: 'it returns false'. Refute it at one input. -/
def fnSettledWrong : ChangeSpec := { name := "fnSettled", fn := fun _ => fun
  | [d] => { results := [.lit (.bool false)], args := [d] }
  | _ => none }
def FnSettledWrongFalsely : Prop := fnSettledRow.holds Tryz.pinned (OpenSpec.ofChange fnSettledWrong)

/-- 'laws.FnKept': WHATEVER THE INPUT: true; the input reads as it did. -/
def fnKeptSpec : ChangeSpec := { name := "fnKept", fn := fun _ => fun
  | [d] => { results := [.lit (.bool true)], args := [d] }
  | _ => none }
def fnKeptRow : OpenClaim := { program := "ytapbooddmdkgjaagreat", sum := "52f326643163a43bf1eb6a77f768a24b2b09376b8df86ec920b0b55eeb2a727b", func := "loop.example/g00494/laws.FnKept", spec := "fnKept", inPlace := ["slices.overlaps[loop.example/g00494/impl.Party]", "slices.overlaps[loop.example/g00494/impl.Entry]", "slices.overlaps[loop.example/g00494/impl.Pin]"], unfollowed := true, recurses := true, apart := false }
def FnKeptSaid : Prop := fnKeptRow.holds Tryz.pinned (OpenSpec.ofChange fnKeptSpec)

/-- ITS FALSE NEIGHBOUR: 'it returns false'. Refute it at one input. -/
def fnKeptWrong : ChangeSpec := { name := "fnKept", fn := fun _ => fun
  | [d] => { results := [.lit (.bool false)], args := [d] }
  | _ => none }
def FnKeptWrongFalsely : Prop := fnKeptRow.holds Tryz.pinned (OpenSpec.ofChange fnKeptWrong)

/-- 'laws.FnMissed': WHATEVER THE INPUT: true; the input reads as it did. -/
def fnMissedSpec : ChangeSpec := { name := "fnMissed", fn := fun _ => fun
  | [d] => { results := [.lit (.bool true)], args := [d] }
  | _ => none }
def fnMissedRow : OpenClaim := { program := "ytapbooddmdkgjaagreat", sum := "52f326643163a43bf1eb6a77f768a24b2b09376b8df86ec920b0b55eeb2a727b", func := "loop.example/g00494/laws.FnMissed", spec := "fnMissed", inPlace := ["slices.overlaps[loop.example/g00494/impl.Party]", "slices.overlaps[loop.example/g00494/impl.Entry]", "slices.overlaps[loop.example/g00494/impl.Pin]"], unfollowed := true, recurses := true, apart := false }
def FnMissedSaid : Prop := fnMissedRow.holds Tryz.pinned (OpenSpec.ofChange fnMissedSpec)

/-- ITS FALSE NEIGHBOUR: 'it returns false'. Refute it at one input. -/
def fnMissedWrong : ChangeSpec := { name := "fnMissed", fn := fun _ => fun
  | [d] => { results := [.lit (.bool false)], args := [d] }
  | _ => none }
def FnMissedWrongFalsely : Prop := fnMissedRow.holds Tryz.pinned (OpenSpec.ofChange fnMissedWrong)

/- THE SECOND FORM. 'bulk': how many values and letters a reading holds, each counted each time it is reached (what is shared counts as often as it is met; a slice's spare places count too). A statement '..UptoSaid' is the law's where the arguments, and the package variables that the reading takes, are together of bulk at most 1048576: NARROWER than '..Said'. Prove '..Said' where nothing that the law and all that it calls make is longer than what came in: it says more and counts as full. Else prove '..UptoSaid'. A law counts once. -/
mutual
def uptoBulk {H : Type} : DataW H → Nat
  | .lit (.string bytes) => bytes.length + 1
  | .lit _ => 1
  | .nil => 1
  | .ptr d => uptoBulk d + 1
  | .slice elems spare => uptoBulkAll elems + uptoBulkAll spare + 1
  | .agg parts => uptoBulkAll parts + 1
  | .iface _ d => uptoBulk d + 1
  | .map entries => uptoBulkEntries entries + 1
  | .held _ => 1
def uptoBulkAll {H : Type} : List (DataW H) → Nat
  | [] => 0
  | d :: r => uptoBulk d + uptoBulkAll r
def uptoBulkEntries {H : Type} : List (Lit × DataW H) → Nat
  | [] => 0
  | x :: r => uptoBulkEntry x + uptoBulkEntries r
def uptoBulkEntry {H : Type} : Lit × DataW H → Nat
  | (.string bytes, d) => bytes.length + uptoBulk d + 1
  | (_, d) => uptoBulk d + 1
 end
def uptoSmall : (H : Type) → List (DataW H) → Bool := fun _ ds => decide (uptoBulkAll ds ≤ 1048576)
def OpenSpec.upto (s : _root_.Go.ChangeSpec) : _root_.Go.OpenSpec := { _root_.Go.OpenSpec.ofChange s with cond := some uptoSmall }

/-- 'laws.FnExactMissed', WHERE WHAT IT READS IS OF BULK AT MOST 1048576: true; the input reads as it did. -/
def fnExactMissedUptoRow : OpenClaim := { program := "ytapbooddmdkgjaagreat", sum := "52f326643163a43bf1eb6a77f768a24b2b09376b8df86ec920b0b55eeb2a727b", func := "loop.example/g00494/laws.FnExactMissed", spec := "fnExactMissed", inPlace := ["slices.overlaps[loop.example/g00494/impl.Party]", "slices.overlaps[loop.example/g00494/impl.Entry]", "slices.overlaps[loop.example/g00494/impl.Pin]"], unfollowed := true, recurses := true, apart := false, narrowed := true }
def FnExactMissedUptoSaid : Prop := fnExactMissedUptoRow.holds Tryz.pinned (OpenSpec.upto fnExactMissedSpec)

/-- 'laws.FnExactUnkept', WHERE WHAT IT READS IS OF BULK AT MOST 1048576: true; the input reads as it did. -/
def fnExactUnkeptUptoRow : OpenClaim := { program := "ytapbooddmdkgjaagreat", sum := "52f326643163a43bf1eb6a77f768a24b2b09376b8df86ec920b0b55eeb2a727b", func := "loop.example/g00494/laws.FnExactUnkept", spec := "fnExactUnkept", inPlace := ["slices.overlaps[loop.example/g00494/impl.Party]", "slices.overlaps[loop.example/g00494/impl.Entry]", "slices.overlaps[loop.example/g00494/impl.Pin]"], unfollowed := true, recurses := true, apart := false, narrowed := true }
def FnExactUnkeptUptoSaid : Prop := fnExactUnkeptUptoRow.holds Tryz.pinned (OpenSpec.upto fnExactUnkeptSpec)

/-- 'laws.FnAcceptAll', WHERE WHAT IT READS IS OF BULK AT MOST 1048576: true; the input reads as it did. -/
def fnAcceptAllUptoRow : OpenClaim := { program := "ytapbooddmdkgjaagreat", sum := "52f326643163a43bf1eb6a77f768a24b2b09376b8df86ec920b0b55eeb2a727b", func := "loop.example/g00494/laws.FnAcceptAll", spec := "fnAcceptAll", unfollowed := true, recurses := true, apart := false, narrowed := true }
def FnAcceptAllUptoSaid : Prop := fnAcceptAllUptoRow.holds Tryz.pinned (OpenSpec.upto fnAcceptAllSpec)

/-- 'laws.FnJudge', WHERE WHAT IT READS IS OF BULK AT MOST 1048576: true; the input reads as it did. -/
def fnJudgeUptoRow : OpenClaim := { program := "ytapbooddmdkgjaagreat", sum := "52f326643163a43bf1eb6a77f768a24b2b09376b8df86ec920b0b55eeb2a727b", func := "loop.example/g00494/laws.FnJudge", spec := "fnJudge", inPlace := ["slices.overlaps[loop.example/g00494/impl.Party]", "slices.overlaps[loop.example/g00494/impl.Entry]", "slices.overlaps[loop.example/g00494/impl.Pin]"], unfollowed := true, recurses := true, apart := false, narrowed := true }
def FnJudgeUptoSaid : Prop := fnJudgeUptoRow.holds Tryz.pinned (OpenSpec.upto fnJudgeSpec)

/-- 'laws.FnRound', WHERE WHAT IT READS IS OF BULK AT MOST 1048576: true; the input reads as it did. -/
def fnRoundUptoRow : OpenClaim := { program := "ytapbooddmdkgjaagreat", sum := "52f326643163a43bf1eb6a77f768a24b2b09376b8df86ec920b0b55eeb2a727b", func := "loop.example/g00494/laws.FnRound", spec := "fnRound", inPlace := ["slices.overlaps[loop.example/g00494/impl.Party]", "slices.overlaps[loop.example/g00494/impl.Entry]", "slices.overlaps[loop.example/g00494/impl.Pin]"], unfollowed := true, recurses := true, apart := false, narrowed := true }
def FnRoundUptoSaid : Prop := fnRoundUptoRow.holds Tryz.pinned (OpenSpec.upto fnRoundSpec)

/-- 'laws.FnSettled', WHERE WHAT IT READS IS OF BULK AT MOST 1048576: true; the input reads as it did. -/
def fnSettledUptoRow : OpenClaim := { program := "ytapbooddmdkgjaagreat", sum := "52f326643163a43bf1eb6a77f768a24b2b09376b8df86ec920b0b55eeb2a727b", func := "loop.example/g00494/laws.FnSettled", spec := "fnSettled", inPlace := ["slices.overlaps[loop.example/g00494/impl.Party]", "slices.overlaps[loop.example/g00494/impl.Entry]", "slices.overlaps[loop.example/g00494/impl.Pin]"], unfollowed := true, recurses := true, apart := false, narrowed := true }
def FnSettledUptoSaid : Prop := fnSettledUptoRow.holds Tryz.pinned (OpenSpec.upto fnSettledSpec)

/-- 'laws.FnKept', WHERE WHAT IT READS IS OF BULK AT MOST 1048576: true; the input reads as it did. -/
def fnKeptUptoRow : OpenClaim := { program := "ytapbooddmdkgjaagreat", sum := "52f326643163a43bf1eb6a77f768a24b2b09376b8df86ec920b0b55eeb2a727b", func := "loop.example/g00494/laws.FnKept", spec := "fnKept", inPlace := ["slices.overlaps[loop.example/g00494/impl.Party]", "slices.overlaps[loop.example/g00494/impl.Entry]", "slices.overlaps[loop.example/g00494/impl.Pin]"], unfollowed := true, recurses := true, apart := false, narrowed := true }
def FnKeptUptoSaid : Prop := fnKeptUptoRow.holds Tryz.pinned (OpenSpec.upto fnKeptSpec)

/-- 'laws.FnMissed', WHERE WHAT IT READS IS OF BULK AT MOST 1048576: true; the input reads as it did. -/
def fnMissedUptoRow : OpenClaim := { program := "ytapbooddmdkgjaagreat", sum := "52f326643163a43bf1eb6a77f768a24b2b09376b8df86ec920b0b55eeb2a727b", func := "loop.example/g00494/laws.FnMissed", spec := "fnMissed", inPlace := ["slices.overlaps[loop.example/g00494/impl.Party]", "slices.overlaps[loop.example/g00494/impl.Entry]", "slices.overlaps[loop.example/g00494/impl.Pin]"], unfollowed := true, recurses := true, apart := false, narrowed := true }
def FnMissedUptoSaid : Prop := fnMissedUptoRow.holds Tryz.pinned (OpenSpec.upto fnMissedSpec)

end Rows
end Go.Proofs.YtapbooddmdkgjaaGreat
