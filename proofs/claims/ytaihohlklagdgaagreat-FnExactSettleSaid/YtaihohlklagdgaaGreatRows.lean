/-
  No cell of these rows narrows 'for every input' (looked for: loops, veiled, ifaces, maps, wideKeys, modest, calm, conditions, laid).
  DERIVED. THE GIVEN ROWS OF THIS SEAT. 7 by the template 'for every input the law returns true; each argument reads behind the call as it read before'; 0 by the template 'total and deterministic' (their statements: YtaihohlklagdgaaGreatTotals.lean).
  GIVEN WITH THE SEED: the statements are not yours to turn. If you find one false, say at which input.
  Laid BY PROGRAM, IN A SANDBOX (cutbox-rows.mjs): the forced cells as the released guide's own fill.sh prints them over the translation cfe3e90ea2498375… (all of the seat's roots in one cut). By AI agents, Wed Nov 11 2026. No macro, syntax, notation, axiom, sorry.
-/
import Derived.Test.YtaihohlklagdgaaGreatChecked
import GoSem.Claim
import GoSem.ClaimJoined
import GoSem.ClaimMapViews
import Derived.JoinedTies
import Derived.KernelRfl
namespace Go.Proofs.YtaihohlklagdgaaGreat
/- THE CELL 'sum', in the pinned program and in every row, IS THE sha256 OF THE DUMP (.gsa) THAT YtaihohlklagdgaaGreatProg.lean LOADS. Nothing in Lean hashes anything: it is a label: what it is worth is what the hold of that sum in a sandbox is worth. -/
noncomputable def Tryz.pinned : Pinned := { name := "ytaihohlklagdgaagreat", sum := "cfe3e90ea2498375e45493c8cd6e1563d447a2756784258fcacd3683c2f02cd0", checked := Tryz.checked }
namespace Rows
def none {H : Type} : Left H := { results := [], args := [] }

/-- 'laws.FnExactDrained': WHATEVER THE INPUT: true; the input reads as it did. -/
def fnExactDrainedSpec : ChangeSpec := { name := "fnExactDrained", fn := fun _ => fun
  | [d] => { results := [.lit (.bool true)], args := [d] }
  | _ => none }
def fnExactDrainedRow : OpenClaim := { program := "ytaihohlklagdgaagreat", sum := "cfe3e90ea2498375e45493c8cd6e1563d447a2756784258fcacd3683c2f02cd0", func := "loop.example/g00494/laws.FnExactDrained", spec := "fnExactDrained", inPlace := ["slices.overlaps[loop.example/g00494/impl.Party]", "slices.overlaps[loop.example/g00494/impl.Entry]", "slices.overlaps[loop.example/g00494/impl.Pin]"], unfollowed := true, recurses := true, apart := false }
def FnExactDrainedSaid : Prop := fnExactDrainedRow.holds Tryz.pinned (OpenSpec.ofChange fnExactDrainedSpec)

/-- ITS FALSE NEIGHBOUR: 'it returns false'. Refute it at one input. -/
def fnExactDrainedWrong : ChangeSpec := { name := "fnExactDrained", fn := fun _ => fun
  | [d] => { results := [.lit (.bool false)], args := [d] }
  | _ => none }
def FnExactDrainedWrongFalsely : Prop := fnExactDrainedRow.holds Tryz.pinned (OpenSpec.ofChange fnExactDrainedWrong)

/-- 'laws.FnExactRound': WHATEVER THE INPUT: true; the input reads as it did. -/
def fnExactRoundSpec : ChangeSpec := { name := "fnExactRound", fn := fun _ => fun
  | [d] => { results := [.lit (.bool true)], args := [d] }
  | _ => none }
def fnExactRoundRow : OpenClaim := { program := "ytaihohlklagdgaagreat", sum := "cfe3e90ea2498375e45493c8cd6e1563d447a2756784258fcacd3683c2f02cd0", func := "loop.example/g00494/laws.FnExactRound", spec := "fnExactRound", inPlace := ["slices.overlaps[loop.example/g00494/impl.Party]", "slices.overlaps[loop.example/g00494/impl.Entry]", "slices.overlaps[loop.example/g00494/impl.Pin]"], unfollowed := true, recurses := true, apart := false }
def FnExactRoundSaid : Prop := fnExactRoundRow.holds Tryz.pinned (OpenSpec.ofChange fnExactRoundSpec)

/-- ITS FALSE NEIGHBOUR: 'it returns false'. Refute it at one input. -/
def fnExactRoundWrong : ChangeSpec := { name := "fnExactRound", fn := fun _ => fun
  | [d] => { results := [.lit (.bool false)], args := [d] }
  | _ => none }
def FnExactRoundWrongFalsely : Prop := fnExactRoundRow.holds Tryz.pinned (OpenSpec.ofChange fnExactRoundWrong)

/-- 'laws.FnExactSettle': WHATEVER THE INPUT: true; the input reads as it did. -/
def fnExactSettleSpec : ChangeSpec := { name := "fnExactSettle", fn := fun _ => fun
  | [d1, d2] => { results := [.lit (.bool true)], args := [d1, d2] }
  | _ => none }
def fnExactSettleRow : OpenClaim := { program := "ytaihohlklagdgaagreat", sum := "cfe3e90ea2498375e45493c8cd6e1563d447a2756784258fcacd3683c2f02cd0", func := "loop.example/g00494/laws.FnExactSettle", spec := "fnExactSettle", inPlace := ["slices.overlaps[loop.example/g00494/impl.Party]", "slices.overlaps[loop.example/g00494/impl.Entry]", "slices.overlaps[loop.example/g00494/impl.Pin]"], unfollowed := true, recurses := true, apart := false }
def FnExactSettleSaid : Prop := fnExactSettleRow.holds Tryz.pinned (OpenSpec.ofChange fnExactSettleSpec)

/-- ITS FALSE NEIGHBOUR: 'it returns false'. Refute it at one input. -/
def fnExactSettleWrong : ChangeSpec := { name := "fnExactSettle", fn := fun _ => fun
  | [d1, d2] => { results := [.lit (.bool false)], args := [d1, d2] }
  | _ => none }
def FnExactSettleWrongFalsely : Prop := fnExactSettleRow.holds Tryz.pinned (OpenSpec.ofChange fnExactSettleWrong)

/-- 'laws.FnExactMissed': WHATEVER THE INPUT: true; the input reads as it did. -/
def fnExactMissedSpec : ChangeSpec := { name := "fnExactMissed", fn := fun _ => fun
  | [d1, d2, d3] => { results := [.lit (.bool true)], args := [d1, d2, d3] }
  | _ => none }
def fnExactMissedRow : OpenClaim := { program := "ytaihohlklagdgaagreat", sum := "cfe3e90ea2498375e45493c8cd6e1563d447a2756784258fcacd3683c2f02cd0", func := "loop.example/g00494/laws.FnExactMissed", spec := "fnExactMissed", inPlace := ["slices.overlaps[loop.example/g00494/impl.Party]", "slices.overlaps[loop.example/g00494/impl.Entry]", "slices.overlaps[loop.example/g00494/impl.Pin]"], unfollowed := true, recurses := true, apart := false }
def FnExactMissedSaid : Prop := fnExactMissedRow.holds Tryz.pinned (OpenSpec.ofChange fnExactMissedSpec)

/-- ITS FALSE NEIGHBOUR: 'it returns false'. Refute it at one input. -/
def fnExactMissedWrong : ChangeSpec := { name := "fnExactMissed", fn := fun _ => fun
  | [d1, d2, d3] => { results := [.lit (.bool false)], args := [d1, d2, d3] }
  | _ => none }
def FnExactMissedWrongFalsely : Prop := fnExactMissedRow.holds Tryz.pinned (OpenSpec.ofChange fnExactMissedWrong)

/-- 'laws.FnExactUnkept': WHATEVER THE INPUT: true; the input reads as it did. -/
def fnExactUnkeptSpec : ChangeSpec := { name := "fnExactUnkept", fn := fun _ => fun
  | [d1, d2] => { results := [.lit (.bool true)], args := [d1, d2] }
  | _ => none }
def fnExactUnkeptRow : OpenClaim := { program := "ytaihohlklagdgaagreat", sum := "cfe3e90ea2498375e45493c8cd6e1563d447a2756784258fcacd3683c2f02cd0", func := "loop.example/g00494/laws.FnExactUnkept", spec := "fnExactUnkept", inPlace := ["slices.overlaps[loop.example/g00494/impl.Party]", "slices.overlaps[loop.example/g00494/impl.Entry]", "slices.overlaps[loop.example/g00494/impl.Pin]"], unfollowed := true, recurses := true, apart := false }
def FnExactUnkeptSaid : Prop := fnExactUnkeptRow.holds Tryz.pinned (OpenSpec.ofChange fnExactUnkeptSpec)

/-- ITS FALSE NEIGHBOUR: 'it returns false'. Refute it at one input. -/
def fnExactUnkeptWrong : ChangeSpec := { name := "fnExactUnkept", fn := fun _ => fun
  | [d1, d2] => { results := [.lit (.bool false)], args := [d1, d2] }
  | _ => none }
def FnExactUnkeptWrongFalsely : Prop := fnExactUnkeptRow.holds Tryz.pinned (OpenSpec.ofChange fnExactUnkeptWrong)

/-- 'laws.FnExactTraceOf': WHATEVER THE INPUT: true; the input reads as it did. -/
def fnExactTraceOfSpec : ChangeSpec := { name := "fnExactTraceOf", fn := fun _ => fun
  | [d1, d2] => { results := [.lit (.bool true)], args := [d1, d2] }
  | _ => none }
def fnExactTraceOfRow : OpenClaim := { program := "ytaihohlklagdgaagreat", sum := "cfe3e90ea2498375e45493c8cd6e1563d447a2756784258fcacd3683c2f02cd0", func := "loop.example/g00494/laws.FnExactTraceOf", spec := "fnExactTraceOf", inPlace := ["slices.overlaps[loop.example/g00494/impl.Party]", "slices.overlaps[loop.example/g00494/impl.Entry]", "slices.overlaps[loop.example/g00494/impl.Pin]"], unfollowed := true, recurses := true, apart := false }
def FnExactTraceOfSaid : Prop := fnExactTraceOfRow.holds Tryz.pinned (OpenSpec.ofChange fnExactTraceOfSpec)

/-- ITS FALSE NEIGHBOUR: 'it returns false'. Refute it at one input. -/
def fnExactTraceOfWrong : ChangeSpec := { name := "fnExactTraceOf", fn := fun _ => fun
  | [d1, d2] => { results := [.lit (.bool false)], args := [d1, d2] }
  | _ => none }
def FnExactTraceOfWrongFalsely : Prop := fnExactTraceOfRow.holds Tryz.pinned (OpenSpec.ofChange fnExactTraceOfWrong)

/-- 'laws.FnExactStoreMost': WHATEVER THE INPUT: true; the input reads as it did. -/
def fnExactStoreMostSpec : ChangeSpec := { name := "fnExactStoreMost", fn := fun _ => fun
  | [d] => { results := [.lit (.bool true)], args := [d] }
  | _ => none }
def fnExactStoreMostRow : OpenClaim := { program := "ytaihohlklagdgaagreat", sum := "cfe3e90ea2498375e45493c8cd6e1563d447a2756784258fcacd3683c2f02cd0", func := "loop.example/g00494/laws.FnExactStoreMost", spec := "fnExactStoreMost", inPlace := ["slices.overlaps[loop.example/g00494/impl.Pin]"], unfollowed := true, recurses := true, apart := false }
def FnExactStoreMostSaid : Prop := fnExactStoreMostRow.holds Tryz.pinned (OpenSpec.ofChange fnExactStoreMostSpec)

/-- ITS FALSE NEIGHBOUR: 'it returns false'. Refute it at one input. -/
def fnExactStoreMostWrong : ChangeSpec := { name := "fnExactStoreMost", fn := fun _ => fun
  | [d] => { results := [.lit (.bool false)], args := [d] }
  | _ => none }
def FnExactStoreMostWrongFalsely : Prop := fnExactStoreMostRow.holds Tryz.pinned (OpenSpec.ofChange fnExactStoreMostWrong)

/- THE SECOND FORM. 'bulk': how many values and letters a reading holds, each counted each time it is reached (what is shared counts as often as it is met; a slice's spare places count too). A statement '..UptoSaid' is the law's where the arguments, and the package variables that the reading takes, are together of bulk at most 1048576: NARROWER than '..Said'. Prove '..Said' where nothing that the law and all that it calls make is longer than what came in: it says more and counts as full. Else prove '..UptoSaid'. A law counts once. -/
mutual
def uptoBulk {H : Type} : DataW H → Nat
  | .lit (.string bytes) => bytes.length + 1
  | .lit _ => 1
  | .nil => 1
  | .ptr d => uptoBulk d + 1
  | .slice elems spare => uptoBulkAll elems + uptoBulkAll spare + 1
  | .agg parts => uptoBulkAll parts + 1
  | .iface _ d => uptoBulk d + 1
  | .map entries => uptoBulkEntries entries + 1
  | .held _ => 1
def uptoBulkAll {H : Type} : List (DataW H) → Nat
  | [] => 0
  | d :: r => uptoBulk d + uptoBulkAll r
def uptoBulkEntries {H : Type} : List (Lit × DataW H) → Nat
  | [] => 0
  | x :: r => uptoBulkEntry x + uptoBulkEntries r
def uptoBulkEntry {H : Type} : Lit × DataW H → Nat
  | (.string bytes, d) => bytes.length + uptoBulk d + 1
  | (_, d) => uptoBulk d + 1
 end
def uptoSmall : (H : Type) → List (DataW H) → Bool := fun _ ds => decide (uptoBulkAll ds ≤ 1048576)
def OpenSpec.upto (s : _root_.Go.ChangeSpec) : _root_.Go.OpenSpec := { _root_.Go.OpenSpec.ofChange s with cond := some uptoSmall }

/-- 'laws.FnExactDrained', WHERE WHAT IT READS IS OF BULK AT MOST 1048576: true; the input reads as it did. -/
def fnExactDrainedUptoRow : OpenClaim := { program := "ytaihohlklagdgaagreat", sum := "cfe3e90ea2498375e45493c8cd6e1563d447a2756784258fcacd3683c2f02cd0", func := "loop.example/g00494/laws.FnExactDrained", spec := "fnExactDrained", inPlace := ["slices.overlaps[loop.example/g00494/impl.Party]", "slices.overlaps[loop.example/g00494/impl.Entry]", "slices.overlaps[loop.example/g00494/impl.Pin]"], unfollowed := true, recurses := true, apart := false, narrowed := true }
def FnExactDrainedUptoSaid : Prop := fnExactDrainedUptoRow.holds Tryz.pinned (OpenSpec.upto fnExactDrainedSpec)

/-- 'laws.FnExactRound', WHERE WHAT IT READS IS OF BULK AT MOST 1048576: true; the input reads as it did. -/
def fnExactRoundUptoRow : OpenClaim := { program := "ytaihohlklagdgaagreat", sum := "cfe3e90ea2498375e45493c8cd6e1563d447a2756784258fcacd3683c2f02cd0", func := "loop.example/g00494/laws.FnExactRound", spec := "fnExactRound", inPlace := ["slices.overlaps[loop.example/g00494/impl.Party]", "slices.overlaps[loop.example/g00494/impl.Entry]", "slices.overlaps[loop.example/g00494/impl.Pin]"], unfollowed := true, recurses := true, apart := false, narrowed := true }
def FnExactRoundUptoSaid : Prop := fnExactRoundUptoRow.holds Tryz.pinned (OpenSpec.upto fnExactRoundSpec)

/-- 'laws.FnExactSettle', WHERE WHAT IT READS IS OF BULK AT MOST 1048576: true; the input reads as it did. -/
def fnExactSettleUptoRow : OpenClaim := { program := "ytaihohlklagdgaagreat", sum := "cfe3e90ea2498375e45493c8cd6e1563d447a2756784258fcacd3683c2f02cd0", func := "loop.example/g00494/laws.FnExactSettle", spec := "fnExactSettle", inPlace := ["slices.overlaps[loop.example/g00494/impl.Party]", "slices.overlaps[loop.example/g00494/impl.Entry]", "slices.overlaps[loop.example/g00494/impl.Pin]"], unfollowed := true, recurses := true, apart := false, narrowed := true }
def FnExactSettleUptoSaid : Prop := fnExactSettleUptoRow.holds Tryz.pinned (OpenSpec.upto fnExactSettleSpec)

/-- 'laws.FnExactMissed', WHERE WHAT IT READS IS OF BULK AT MOST 1048576: true; the input reads as it did. -/
def fnExactMissedUptoRow : OpenClaim := { program := "ytaihohlklagdgaagreat", sum := "cfe3e90ea2498375e45493c8cd6e1563d447a2756784258fcacd3683c2f02cd0", func := "loop.example/g00494/laws.FnExactMissed", spec := "fnExactMissed", inPlace := ["slices.overlaps[loop.example/g00494/impl.Party]", "slices.overlaps[loop.example/g00494/impl.Entry]", "slices.overlaps[loop.example/g00494/impl.Pin]"], unfollowed := true, recurses := true, apart := false, narrowed := true }
def FnExactMissedUptoSaid : Prop := fnExactMissedUptoRow.holds Tryz.pinned (OpenSpec.upto fnExactMissedSpec)

/-- 'laws.FnExactUnkept', WHERE WHAT IT READS IS OF BULK AT MOST 1048576: true; the input reads as it did. -/
def fnExactUnkeptUptoRow : OpenClaim := { program := "ytaihohlklagdgaagreat", sum := "cfe3e90ea2498375e45493c8cd6e1563d447a2756784258fcacd3683c2f02cd0", func := "loop.example/g00494/laws.FnExactUnkept", spec := "fnExactUnkept", inPlace := ["slices.overlaps[loop.example/g00494/impl.Party]", "slices.overlaps[loop.example/g00494/impl.Entry]", "slices.overlaps[loop.example/g00494/impl.Pin]"], unfollowed := true, recurses := true, apart := false, narrowed := true }
def FnExactUnkeptUptoSaid : Prop := fnExactUnkeptUptoRow.holds Tryz.pinned (OpenSpec.upto fnExactUnkeptSpec)

/-- 'laws.FnExactTraceOf', WHERE WHAT IT READS IS OF BULK AT MOST 1048576: true; the input reads as it did. -/
def fnExactTraceOfUptoRow : OpenClaim := { program := "ytaihohlklagdgaagreat", sum := "cfe3e90ea2498375e45493c8cd6e1563d447a2756784258fcacd3683c2f02cd0", func := "loop.example/g00494/laws.FnExactTraceOf", spec := "fnExactTraceOf", inPlace := ["slices.overlaps[loop.example/g00494/impl.Party]", "slices.overlaps[loop.example/g00494/impl.Entry]", "slices.overlaps[loop.example/g00494/impl.Pin]"], unfollowed := true, recurses := true, apart := false, narrowed := true }
def FnExactTraceOfUptoSaid : Prop := fnExactTraceOfUptoRow.holds Tryz.pinned (OpenSpec.upto fnExactTraceOfSpec)

/-- 'laws.FnExactStoreMost', WHERE WHAT IT READS IS OF BULK AT MOST 1048576: true; the input reads as it did. -/
def fnExactStoreMostUptoRow : OpenClaim := { program := "ytaihohlklagdgaagreat", sum := "cfe3e90ea2498375e45493c8cd6e1563d447a2756784258fcacd3683c2f02cd0", func := "loop.example/g00494/laws.FnExactStoreMost", spec := "fnExactStoreMost", inPlace := ["slices.overlaps[loop.example/g00494/impl.Pin]"], unfollowed := true, recurses := true, apart := false, narrowed := true }
def FnExactStoreMostUptoSaid : Prop := fnExactStoreMostUptoRow.holds Tryz.pinned (OpenSpec.upto fnExactStoreMostSpec)

end Rows
end Go.Proofs.YtaihohlklagdgaaGreat
