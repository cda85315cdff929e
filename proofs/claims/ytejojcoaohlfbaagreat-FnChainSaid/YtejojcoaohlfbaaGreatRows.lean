/-
  No cell of these rows narrows 'for every input' (looked for: loops, veiled, ifaces, maps, wideKeys, modest, calm, conditions, laid).
  DERIVED. THE GIVEN ROWS OF THIS SEAT. 9 by the template 'for every input the law returns true; each argument reads behind the call as it read before'; 0 by the template 'total and deterministic' (their statements: YtejojcoaohlfbaaGreatTotals.lean).
  GIVEN WITH THE SEED: the statements are not yours to turn. If you find one false, say at which input.
  Laid BY PROGRAM, IN A SANDBOX (cutbox-rows.mjs): the forced cells as the released guide's own fill.sh prints them over the translation b7470ea34f6db0d6… (all of the seat's roots in one cut). By AI agents, Wed Nov 11 2026. No macro, syntax, notation, axiom, sorry.
-/
import Derived.Test.YtejojcoaohlfbaaGreatChecked
import GoSem.Claim
import GoSem.ClaimJoined
import GoSem.ClaimMapViews
import Derived.JoinedTies
import Derived.KernelRfl
namespace Go.Proofs.YtejojcoaohlfbaaGreat
/- THE CELL 'sum', in the pinned program and in every row, IS THE sha256 OF THE DUMP (.gsa) THAT YtejojcoaohlfbaaGreatProg.lean LOADS. Nothing in Lean hashes anything: it is a label: what it is worth is what the hold of that sum in a sandbox is worth. -/
noncomputable def Tryz.pinned : Pinned := { name := "ytejojcoaohlfbaagreat", sum := "b7470ea34f6db0d67b613da2418783cb63cd13d22734729af716e2c68c5ccc8c", checked := Tryz.checked }
namespace Rows
def none {H : Type} : Left H := { results := [], args := [] }

/-- 'laws.FnExactMissed': WHATEVER THE INPUT: true; the input reads as it did. -/
def fnExactMissedSpec : ChangeSpec := { name := "fnExactMissed", fn := fun _ => fun
  | [d1, d2, d3] => { results := [.lit (.bool true)], args := [d1, d2, d3] }
  | _ => none }
def fnExactMissedRow : OpenClaim := { program := "ytejojcoaohlfbaagreat", sum := "b7470ea34f6db0d67b613da2418783cb63cd13d22734729af716e2c68c5ccc8c", func := "loop.example/g00494/laws.FnExactMissed", spec := "fnExactMissed", inPlace := ["slices.overlaps[loop.example/g00494/impl.Party]", "slices.overlaps[loop.example/g00494/impl.Entry]", "slices.overlaps[loop.example/g00494/impl.Pin]"], unfollowed := true, recurses := true, apart := false }
def FnExactMissedSaid : Prop := fnExactMissedRow.holds Tryz.pinned (OpenSpec.ofChange fnExactMissedSpec)

/-- ITS FALSE NEIGHBOUR: 'it returns false'. Refute it at one input. -/
def fnExactMissedWrong : ChangeSpec := { name := "fnExactMissed", fn := fun _ => fun
  | [d1, d2, d3] => { results := [.lit (.bool false)], args := [d1, d2, d3] }
  | _ => none }
def FnExactMissedWrongFalsely : Prop := fnExactMissedRow.holds Tryz.pinned (OpenSpec.ofChange fnExactMissedWrong)

/-- 'laws.FnExactUnkept': WHATEVER THE INPUT: true; the input reads as it did. -/
def fnExactUnkeptSpec : ChangeSpec := { name := "fnExactUnkept", fn := fun _ => fun
  | [d1, d2] => { results := [.lit (.bool true)], args := [d1, d2] }
  | _ => none }
def fnExactUnkeptRow : OpenClaim := { program := "ytejojcoaohlfbaagreat", sum := "b7470ea34f6db0d67b613da2418783cb63cd13d22734729af716e2c68c5ccc8c", func := "loop.example/g00494/laws.FnExactUnkept", spec := "fnExactUnkept", inPlace := ["slices.overlaps[loop.example/g00494/impl.Party]", "slices.overlaps[loop.example/g00494/impl.Entry]", "slices.overlaps[loop.example/g00494/impl.Pin]"], unfollowed := true, recurses := true, apart := false }
def FnExactUnkeptSaid : Prop := fnExactUnkeptRow.holds Tryz.pinned (OpenSpec.ofChange fnExactUnkeptSpec)

/-- ITS FALSE NEIGHBOUR: 'it returns false'. Refute it at one input. -/
def fnExactUnkeptWrong : ChangeSpec := { name := "fnExactUnkept", fn := fun _ => fun
  | [d1, d2] => { results := [.lit (.bool false)], args := [d1, d2] }
  | _ => none }
def FnExactUnkeptWrongFalsely : Prop := fnExactUnkeptRow.holds Tryz.pinned (OpenSpec.ofChange fnExactUnkeptWrong)

/-- 'laws.FnExactTraceOf': WHATEVER THE INPUT: true; the input reads as it did. -/
def fnExactTraceOfSpec : ChangeSpec := { name := "fnExactTraceOf", fn := fun _ => fun
  | [d1, d2] => { results := [.lit (.bool true)], args := [d1, d2] }
  | _ => none }
def fnExactTraceOfRow : OpenClaim := { program := "ytejojcoaohlfbaagreat", sum := "b7470ea34f6db0d67b613da2418783cb63cd13d22734729af716e2c68c5ccc8c", func := "loop.example/g00494/laws.FnExactTraceOf", spec := "fnExactTraceOf", inPlace := ["slices.overlaps[loop.example/g00494/impl.Party]", "slices.overlaps[loop.example/g00494/impl.Entry]", "slices.overlaps[loop.example/g00494/impl.Pin]"], unfollowed := true, recurses := true, apart := false }
def FnExactTraceOfSaid : Prop := fnExactTraceOfRow.holds Tryz.pinned (OpenSpec.ofChange fnExactTraceOfSpec)

/-- ITS FALSE NEIGHBOUR: 'it returns false'. Refute it at one input. -/
def fnExactTraceOfWrong : ChangeSpec := { name := "fnExactTraceOf", fn := fun _ => fun
  | [d1, d2] => { results := [.lit (.bool false)], args := [d1, d2] }
  | _ => none }
def FnExactTraceOfWrongFalsely : Prop := fnExactTraceOfRow.holds Tryz.pinned (OpenSpec.ofChange fnExactTraceOfWrong)

/-- 'laws.FnKept': WHATEVER THE INPUT: true; the input reads as it did. -/
def fnKeptSpec : ChangeSpec := { name := "fnKept", fn := fun _ => fun
  | [d] => { results := [.lit (.bool true)], args := [d] }
  | _ => none }
def fnKeptRow : OpenClaim := { program := "ytejojcoaohlfbaagreat", sum := "b7470ea34f6db0d67b613da2418783cb63cd13d22734729af716e2c68c5ccc8c", func := "loop.example/g00494/laws.FnKept", spec := "fnKept", inPlace := ["slices.overlaps[loop.example/g00494/impl.Party]", "slices.overlaps[loop.example/g00494/impl.Entry]", "slices.overlaps[loop.example/g00494/impl.Pin]"], unfollowed := true, recurses := true, apart := false }
def FnKeptSaid : Prop := fnKeptRow.holds Tryz.pinned (OpenSpec.ofChange fnKeptSpec)

/-- ITS FALSE NEIGHBOUR: 'it returns false'. Refute it at one input. -/
def fnKeptWrong : ChangeSpec := { name := "fnKept", fn := fun _ => fun
  | [d] => { results := [.lit (.bool false)], args := [d] }
  | _ => none }
def FnKeptWrongFalsely : Prop := fnKeptRow.holds Tryz.pinned (OpenSpec.ofChange fnKeptWrong)

/-- 'laws.FnMissed': WHATEVER THE INPUT: true; the input reads as it did. -/
def fnMissedSpec : ChangeSpec := { name := "fnMissed", fn := fun _ => fun
  | [d] => { results := [.lit (.bool true)], args := [d] }
  | _ => none }
def fnMissedRow : OpenClaim := { program := "ytejojcoaohlfbaagreat", sum := "b7470ea34f6db0d67b613da2418783cb63cd13d22734729af716e2c68c5ccc8c", func := "loop.example/g00494/laws.FnMissed", spec := "fnMissed", inPlace := ["slices.overlaps[loop.example/g00494/impl.Party]", "slices.overlaps[loop.example/g00494/impl.Entry]", "slices.overlaps[loop.example/g00494/impl.Pin]"], unfollowed := true, recurses := true, apart := false }
def FnMissedSaid : Prop := fnMissedRow.holds Tryz.pinned (OpenSpec.ofChange fnMissedSpec)

/-- ITS FALSE NEIGHBOUR: 'it returns false'. Refute it at one input. -/
def fnMissedWrong : ChangeSpec := { name := "fnMissed", fn := fun _ => fun
  | [d] => { results := [.lit (.bool false)], args := [d] }
  | _ => none }
def FnMissedWrongFalsely : Prop := fnMissedRow.holds Tryz.pinned (OpenSpec.ofChange fnMissedWrong)

/-- 'laws.FnSoldFold': WHATEVER THE INPUT: true; the input reads as it did. -/
def fnSoldFoldSpec : ChangeSpec := { name := "fnSoldFold", fn := fun _ => fun
  | [d] => { results := [.lit (.bool true)], args := [d] }
  | _ => none }
def fnSoldFoldRow : OpenClaim := { program := "ytejojcoaohlfbaagreat", sum := "b7470ea34f6db0d67b613da2418783cb63cd13d22734729af716e2c68c5ccc8c", func := "loop.example/g00494/laws.FnSoldFold", spec := "fnSoldFold", unfollowed := true, recurses := true, apart := false }
def FnSoldFoldSaid : Prop := fnSoldFoldRow.holds Tryz.pinned (OpenSpec.ofChange fnSoldFoldSpec)

/-- ITS FALSE NEIGHBOUR: 'it returns false'. Refute it at one input. -/
def fnSoldFoldWrong : ChangeSpec := { name := "fnSoldFold", fn := fun _ => fun
  | [d] => { results := [.lit (.bool false)], args := [d] }
  | _ => none }
def FnSoldFoldWrongFalsely : Prop := fnSoldFoldRow.holds Tryz.pinned (OpenSpec.ofChange fnSoldFoldWrong)

/-- 'laws.FnFair': WHATEVER THE INPUT: true; the input reads as it did. -/
def fnFairSpec : ChangeSpec := { name := "fnFair", fn := fun _ => fun
  | [d] => { results := [.lit (.bool true)], args := [d] }
  | _ => none }
def fnFairRow : OpenClaim := { program := "ytejojcoaohlfbaagreat", sum := "b7470ea34f6db0d67b613da2418783cb63cd13d22734729af716e2c68c5ccc8c", func := "loop.example/g00494/laws.FnFair", spec := "fnFair", inPlace := ["slices.overlaps[loop.example/g00494/impl.Party]", "slices.overlaps[loop.example/g00494/impl.Entry]", "slices.overlaps[loop.example/g00494/impl.Pin]"], unfollowed := true, recurses := true, apart := false }
def FnFairSaid : Prop := fnFairRow.holds Tryz.pinned (OpenSpec.ofChange fnFairSpec)

/-- ITS FALSE NEIGHBOUR: 'it returns false'. Refute it at one input. -/
def fnFairWrong : ChangeSpec := { name := "fnFair", fn := fun _ => fun
  | [d] => { results := [.lit (.bool false)], args := [d] }
  | _ => none }
def FnFairWrongFalsely : Prop := fnFairRow.holds Tryz.pinned (OpenSpec.ofChange fnFairWrong)

/-- 'laws.FnChain': WHATEVER THE INPUT: true; the input reads as it did. -/
def fnChainSpec : ChangeSpec := { name := "fnChain", fn := fun _ => fun
  | [d] => { results := [.lit (.bool true)], args := [d] }
  | _ => none }
def fnChainRow : OpenClaim := { program := "ytejojcoaohlfbaagreat", sum := "b7470ea34f6db0d67b613da2418783cb63cd13d22734729af716e2c68c5ccc8c", func := "loop.example/g00494/laws.FnChain", spec := "fnChain", inPlace := ["slices.overlaps[loop.example/g00494/impl.Party]", "slices.overlaps[loop.example/g00494/impl.Entry]", "slices.overlaps[loop.example/g00494/impl.Pin]"], unfollowed := true, recurses := true, apart := false }
def FnChainSaid : Prop := fnChainRow.holds Tryz.pinned (OpenSpec.ofChange fnChainSpec)

/-- ITS FALSE NEIGHBOUR: 'it returns false'. Refute it at one input. -/
def fnChainWrong : ChangeSpec := { name := "fnChain", fn := fun _ => fun
  | [d] => { results := [.lit (.bool false)], args := [d] }
  | _ => none }
def FnChainWrongFalsely : Prop := fnChainRow.holds Tryz.pinned (OpenSpec.ofChange fnChainWrong)

/-- 'laws.FnEnough': WHATEVER THE INPUT: true; the input reads as it did. -/
def fnEnoughSpec : ChangeSpec := { name := "fnEnough", fn := fun _ => fun
  | [d] => { results := [.lit (.bool true)], args := [d] }
  | _ => none }
def fnEnoughRow : OpenClaim := { program := "ytejojcoaohlfbaagreat", sum := "b7470ea34f6db0d67b613da2418783cb63cd13d22734729af716e2c68c5ccc8c", func := "loop.example/g00494/laws.FnEnough", spec := "fnEnough", inPlace := ["slices.overlaps[loop.example/g00494/impl.Party]", "slices.overlaps[loop.example/g00494/impl.Entry]", "slices.overlaps[loop.example/g00494/impl.Pin]"], unfollowed := true, recurses := true, apart := false }
def FnEnoughSaid : Prop := fnEnoughRow.holds Tryz.pinned (OpenSpec.ofChange fnEnoughSpec)

/-- ITS FALSE NEIGHBOUR: 'it returns false'. Refute it at one input. -/
def fnEnoughWrong : ChangeSpec := { name := "fnEnough", fn := fun _ => fun
  | [d] => { results := [.lit (.bool false)], args := [d] }
  | _ => none }
def FnEnoughWrongFalsely : Prop := fnEnoughRow.holds Tryz.pinned (OpenSpec.ofChange fnEnoughWrong)

/- THE SECOND FORM. 'bulk': how many values and letters a reading holds, each counted each time it is reached (what is shared counts as often as it is met; a slice's spare places count too). A statement '..UptoSaid' is the law's where the arguments, and the package variables that the reading takes, are together of bulk at most 1048576: NARROWER than '..Said'. Prove '..Said' where nothing that the law and all that it calls make is longer than what came in: it says more and counts as full. Else prove '..UptoSaid'. A law counts once. -/
mutual
def uptoBulk {H : Type} : DataW H → Nat
  | .lit (.string bytes) => bytes.length + 1
  | .lit _ => 1
  | .nil => 1
  | .ptr d => uptoBulk d + 1
  | .slice elems spare => uptoBulkAll elems + uptoBulkAll spare + 1
  | .agg parts => uptoBulkAll parts + 1
  | .iface _ d => uptoBulk d + 1
  | .map entries => uptoBulkEntries entries + 1
  | .held _ => 1
def uptoBulkAll {H : Type} : List (DataW H) → Nat
  | [] => 0
  | d :: r => uptoBulk d + uptoBulkAll r
def uptoBulkEntries {H : Type} : List (Lit × DataW H) → Nat
  | [] => 0
  | x :: r => uptoBulkEntry x + uptoBulkEntries r
def uptoBulkEntry {H : Type} : Lit × DataW H → Nat
  | (.string bytes, d) => bytes.length + uptoBulk d + 1
  | (_, d) => uptoBulk d + 1
 end
def uptoSmall : (H : Type) → List (DataW H) → Bool := fun _ ds => decide (uptoBulkAll ds ≤ 1048576)
def OpenSpec.upto (s : _root_.Go.ChangeSpec) : _root_.Go.OpenSpec := { _root_.Go.OpenSpec.ofChange s with cond := some uptoSmall }

/-- 'laws.FnExactMissed', WHERE WHAT IT READS IS OF BULK AT MOST 1048576: true; the input reads as it did. -/
def fnExactMissedUptoRow : OpenClaim := { program := "ytejojcoaohlfbaagreat", sum := "b7470ea34f6db0d67b613da2418783cb63cd13d22734729af716e2c68c5ccc8c", func := "loop.example/g00494/laws.FnExactMissed", spec := "fnExactMissed", inPlace := ["slices.overlaps[loop.example/g00494/impl.Party]", "slices.overlaps[loop.example/g00494/impl.Entry]", "slices.overlaps[loop.example/g00494/impl.Pin]"], unfollowed := true, recurses := true, apart := false, narrowed := true }
def FnExactMissedUptoSaid : Prop := fnExactMissedUptoRow.holds Tryz.pinned (OpenSpec.upto fnExactMissedSpec)

/-- 'laws.FnExactUnkept', WHERE WHAT IT READS IS OF BULK AT MOST 1048576: true; the input reads as it did. -/
def fnExactUnkeptUptoRow : OpenClaim := { program := "ytejojcoaohlfbaagreat", sum := "b7470ea34f6db0d67b613da2418783cb63cd13d22734729af716e2c68c5ccc8c", func := "loop.example/g00494/laws.FnExactUnkept", spec := "fnExactUnkept", inPlace := ["slices.overlaps[loop.example/g00494/impl.Party]", "slices.overlaps[loop.example/g00494/impl.Entry]", "slices.overlaps[loop.example/g00494/impl.Pin]"], unfollowed := true, recurses := true, apart := false, narrowed := true }
def FnExactUnkeptUptoSaid : Prop := fnExactUnkeptUptoRow.holds Tryz.pinned (OpenSpec.upto fnExactUnkeptSpec)

/-- 'laws.FnExactTraceOf', WHERE WHAT IT READS IS OF BULK AT MOST 1048576: true; the input reads as it did. -/
def fnExactTraceOfUptoRow : OpenClaim := { program := "ytejojcoaohlfbaagreat", sum := "b7470ea34f6db0d67b613da2418783cb63cd13d22734729af716e2c68c5ccc8c", func := "loop.example/g00494/laws.FnExactTraceOf", spec := "fnExactTraceOf", inPlace := ["slices.overlaps[loop.example/g00494/impl.Party]", "slices.overlaps[loop.example/g00494/impl.Entry]", "slices.overlaps[loop.example/g00494/impl.Pin]"], unfollowed := true, recurses := true, apart := false, narrowed := true }
def FnExactTraceOfUptoSaid : Prop := fnExactTraceOfUptoRow.holds Tryz.pinned (OpenSpec.upto fnExactTraceOfSpec)

/-- 'laws.FnKept', WHERE WHAT IT READS IS OF BULK AT MOST 1048576: true; the input reads as it did. -/
def fnKeptUptoRow : OpenClaim := { program := "ytejojcoaohlfbaagreat", sum := "b7470ea34f6db0d67b613da2418783cb63cd13d22734729af716e2c68c5ccc8c", func := "loop.example/g00494/laws.FnKept", spec := "fnKept", inPlace := ["slices.overlaps[loop.example/g00494/impl.Party]", "slices.overlaps[loop.example/g00494/impl.Entry]", "slices.overlaps[loop.example/g00494/impl.Pin]"], unfollowed := true, recurses := true, apart := false, narrowed := true }
def FnKeptUptoSaid : Prop := fnKeptUptoRow.holds Tryz.pinned (OpenSpec.upto fnKeptSpec)

/-- 'laws.FnMissed', WHERE WHAT IT READS IS OF BULK AT MOST 1048576: true; the input reads as it did. -/
def fnMissedUptoRow : OpenClaim := { program := "ytejojcoaohlfbaagreat", sum := "b7470ea34f6db0d67b613da2418783cb63cd13d22734729af716e2c68c5ccc8c", func := "loop.example/g00494/laws.FnMissed", spec := "fnMissed", inPlace := ["slices.overlaps[loop.example/g00494/impl.Party]", "slices.overlaps[loop.example/g00494/impl.Entry]", "slices.overlaps[loop.example/g00494/impl.Pin]"], unfollowed := true, recurses := true, apart := false, narrowed := true }
def FnMissedUptoSaid : Prop := fnMissedUptoRow.holds Tryz.pinned (OpenSpec.upto fnMissedSpec)

/-- 'laws.FnSoldFold', WHERE WHAT IT READS IS OF BULK AT MOST 1048576: true; the input reads as it did. -/
def fnSoldFoldUptoRow : OpenClaim := { program := "ytejojcoaohlfbaagreat", sum := "b7470ea34f6db0d67b613da2418783cb63cd13d22734729af716e2c68c5ccc8c", func := "loop.example/g00494/laws.FnSoldFold", spec := "fnSoldFold", unfollowed := true, recurses := true, apart := false, narrowed := true }
def FnSoldFoldUptoSaid : Prop := fnSoldFoldUptoRow.holds Tryz.pinned (OpenSpec.upto fnSoldFoldSpec)

/-- 'laws.FnFair', WHERE WHAT IT READS IS OF BULK AT MOST 1048576: true; the input reads as it did. -/
def fnFairUptoRow : OpenClaim := { program := "ytejojcoaohlfbaagreat", sum := "b7470ea34f6db0d67b613da2418783cb63cd13d22734729af716e2c68c5ccc8c", func := "loop.example/g00494/laws.FnFair", spec := "fnFair", inPlace := ["slices.overlaps[loop.example/g00494/impl.Party]", "slices.overlaps[loop.example/g00494/impl.Entry]", "slices.overlaps[loop.example/g00494/impl.Pin]"], unfollowed := true, recurses := true, apart := false, narrowed := true }
def FnFairUptoSaid : Prop := fnFairUptoRow.holds Tryz.pinned (OpenSpec.upto fnFairSpec)

/-- 'laws.FnChain', WHERE WHAT IT READS IS OF BULK AT MOST 1048576: true; the input reads as it did. -/
def fnChainUptoRow : OpenClaim := { program := "ytejojcoaohlfbaagreat", sum := "b7470ea34f6db0d67b613da2418783cb63cd13d22734729af716e2c68c5ccc8c", func := "loop.example/g00494/laws.FnChain", spec := "fnChain", inPlace := ["slices.overlaps[loop.example/g00494/impl.Party]", "slices.overlaps[loop.example/g00494/impl.Entry]", "slices.overlaps[loop.example/g00494/impl.Pin]"], unfollowed := true, recurses := true, apart := false, narrowed := true }
def FnChainUptoSaid : Prop := fnChainUptoRow.holds Tryz.pinned (OpenSpec.upto fnChainSpec)

/-- 'laws.FnEnough', WHERE WHAT IT READS IS OF BULK AT MOST 1048576: true; the input reads as it did. -/
def fnEnoughUptoRow : OpenClaim := { program := "ytejojcoaohlfbaagreat", sum := "b7470ea34f6db0d67b613da2418783cb63cd13d22734729af716e2c68c5ccc8c", func := "loop.example/g00494/laws.FnEnough", spec := "fnEnough", inPlace := ["slices.overlaps[loop.example/g00494/impl.Party]", "slices.overlaps[loop.example/g00494/impl.Entry]", "slices.overlaps[loop.example/g00494/impl.Pin]"], unfollowed := true, recurses := true, apart := false, narrowed := true }
def FnEnoughUptoSaid : Prop := fnEnoughUptoRow.holds Tryz.pinned (OpenSpec.upto fnEnoughSpec)

end Rows
end Go.Proofs.YtejojcoaohlfbaaGreat
