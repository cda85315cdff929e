/-
  No cell of these rows narrows 'for every input' (looked for: loops, veiled, ifaces, maps, wideKeys, modest, calm, conditions, laid).
  DERIVED. THE GIVEN ROWS OF THIS SEAT. 4 by the template 'for every input the law returns true; each argument reads behind the call as it read before'; 0 by the template 'total and deterministic' (their statements: YtgbfemglimebdaaGreatTotals.lean).
  GIVEN WITH THE SEED: the statements are not yours to turn. If you find one false, say at which input.
  Laid BY PROGRAM, IN A SANDBOX (cutbox-rows.mjs): the forced cells as the released guide's own fill.sh prints them over the translation b0536bf975d623de… (all of the seat's roots in one cut). By AI agents, Wed Nov 11 2026. No macro, syntax, notation, axiom, sorry.
-/
import Derived.Test.YtgbfemglimebdaaGreatChecked
import GoSem.Claim
import GoSem.ClaimJoined
import GoSem.ClaimMapViews
import Derived.JoinedTies
import Derived.KernelRfl
namespace Go.Proofs.YtgbfemglimebdaaGreat
/- THE CELL 'sum', in the pinned program and in every row, IS THE sha256 OF THE DUMP (.gsa) THAT YtgbfemglimebdaaGreatProg.lean LOADS. Nothing in Lean hashes anything: it is a label: what it is worth is what the hold of that sum in a sandbox is worth. -/
noncomputable def Tryz.pinned : Pinned := { name := "ytgbfemglimebdaagreat", sum := "b0536bf975d623defc96fd6ba1a63bcccac1e7d2062a43f49a5a1c5f201e8a96", checked := Tryz.checked }
namespace Rows
def none {H : Type} : Left H := { results := [], args := [] }

/-- 'laws.FnExactLinked': WHATEVER THE INPUT: true; the input reads as it did. -/
def fnExactLinkedSpec : ChangeSpec := { name := "fnExactLinked", fn := fun _ => fun
  | [d1, d2] => { results := [.lit (.bool true)], args := [d1, d2] }
  | _ => none }
def fnExactLinkedRow : OpenClaim := { program := "ytgbfemglimebdaagreat", sum := "b0536bf975d623defc96fd6ba1a63bcccac1e7d2062a43f49a5a1c5f201e8a96", func := "loop.example/g00494/laws.FnExactLinked", spec := "fnExactLinked", unfollowed := true, recurses := true, apart := false }
def FnExactLinkedSaid : Prop := fnExactLinkedRow.holds Tryz.pinned (OpenSpec.ofChange fnExactLinkedSpec)

/-- ITS FALSE NEIGHBOUR: 'it returns false'. Refute it at one input. -/
def fnExactLinkedWrong : ChangeSpec := { name := "fnExactLinked", fn := fun _ => fun
  | [d1, d2] => { results := [.lit (.bool false)], args := [d1, d2] }
  | _ => none }
def FnExactLinkedWrongFalsely : Prop := fnExactLinkedRow.holds Tryz.pinned (OpenSpec.ofChange fnExactLinkedWrong)

/-- 'laws.FnExactPassed': WHATEVER THE INPUT: true; the input reads as it did. -/
def fnExactPassedSpec : ChangeSpec := { name := "fnExactPassed", fn := fun _ => fun
  | [d1, d2, d3] => { results := [.lit (.bool true)], args := [d1, d2, d3] }
  | _ => none }
def fnExactPassedRow : OpenClaim := { program := "ytgbfemglimebdaagreat", sum := "b0536bf975d623defc96fd6ba1a63bcccac1e7d2062a43f49a5a1c5f201e8a96", func := "loop.example/g00494/laws.FnExactPassed", spec := "fnExactPassed", unfollowed := true, recurses := true, apart := false }
def FnExactPassedSaid : Prop := fnExactPassedRow.holds Tryz.pinned (OpenSpec.ofChange fnExactPassedSpec)

/-- ITS FALSE NEIGHBOUR: 'it returns false'. Refute it at one input. -/
def fnExactPassedWrong : ChangeSpec := { name := "fnExactPassed", fn := fun _ => fun
  | [d1, d2, d3] => { results := [.lit (.bool false)], args := [d1, d2, d3] }
  | _ => none }
def FnExactPassedWrongFalsely : Prop := fnExactPassedRow.holds Tryz.pinned (OpenSpec.ofChange fnExactPassedWrong)

/-- 'laws.FnExactChance': WHATEVER THE INPUT: true; the input reads as it did. -/
def fnExactChanceSpec : ChangeSpec := { name := "fnExactChance", fn := fun _ => fun
  | [d1, d2] => { results := [.lit (.bool true)], args := [d1, d2] }
  | _ => none }
def fnExactChanceRow : OpenClaim := { program := "ytgbfemglimebdaagreat", sum := "b0536bf975d623defc96fd6ba1a63bcccac1e7d2062a43f49a5a1c5f201e8a96", func := "loop.example/g00494/laws.FnExactChance", spec := "fnExactChance", inPlace := ["slices.overlaps[loop.example/g00494/impl.Party]", "slices.overlaps[loop.example/g00494/impl.Entry]"], unfollowed := true, recurses := true, apart := false }
def FnExactChanceSaid : Prop := fnExactChanceRow.holds Tryz.pinned (OpenSpec.ofChange fnExactChanceSpec)

/-- ITS FALSE NEIGHBOUR: 'it returns false'. Refute it at one input. -/
def fnExactChanceWrong : ChangeSpec := { name := "fnExactChance", fn := fun _ => fun
  | [d1, d2] => { results := [.lit (.bool false)], args := [d1, d2] }
  | _ => none }
def FnExactChanceWrongFalsely : Prop := fnExactChanceRow.holds Tryz.pinned (OpenSpec.ofChange fnExactChanceWrong)

/-- 'laws.FnExactChainTo': WHATEVER THE INPUT: true; the input reads as it did. -/
def fnExactChainToSpec : ChangeSpec := { name := "fnExactChainTo", fn := fun _ => fun
  | [d1, d2] => { results := [.lit (.bool true)], args := [d1, d2] }
  | _ => none }
def fnExactChainToRow : OpenClaim := { program := "ytgbfemglimebdaagreat", sum := "b0536bf975d623defc96fd6ba1a63bcccac1e7d2062a43f49a5a1c5f201e8a96", func := "loop.example/g00494/laws.FnExactChainTo", spec := "fnExactChainTo", unfollowed := true, recurses := true, apart := false }
def FnExactChainToSaid : Prop := fnExactChainToRow.holds Tryz.pinned (OpenSpec.ofChange fnExactChainToSpec)

/-- ITS FALSE NEIGHBOUR: 'it returns false'. Refute it at one input. -/
def fnExactChainToWrong : ChangeSpec := { name := "fnExactChainTo", fn := fun _ => fun
  | [d1, d2] => { results := [.lit (.bool false)], args := [d1, d2] }
  | _ => none }
def FnExactChainToWrongFalsely : Prop := fnExactChainToRow.holds Tryz.pinned (OpenSpec.ofChange fnExactChainToWrong)

/- THE SECOND FORM. 'bulk': how many values and letters a reading holds, each counted each time it is reached (what is shared counts as often as it is met; a slice's spare places count too). A statement '..UptoSaid' is the law's where the arguments, and the package variables that the reading takes, are together of bulk at most 1048576: NARROWER than '..Said'. Prove '..Said' where nothing that the law and all that it calls make is longer than what came in: it says more and counts as full. Else prove '..UptoSaid'. A law counts once. -/
mutual
def uptoBulk {H : Type} : DataW H → Nat
  | .lit (.string bytes) => bytes.length + 1
  | .lit _ => 1
  | .nil => 1
  | .ptr d => uptoBulk d + 1
  | .slice elems spare => uptoBulkAll elems + uptoBulkAll spare + 1
  | .agg parts => uptoBulkAll parts + 1
  | .iface _ d => uptoBulk d + 1
  | .map entries => uptoBulkEntries entries + 1
  | .held _ => 1
def uptoBulkAll {H : Type} : List (DataW H) → Nat
  | [] => 0
  | d :: r => uptoBulk d + uptoBulkAll r
def uptoBulkEntries {H : Type} : List (Lit × DataW H) → Nat
  | [] => 0
  | x :: r => uptoBulkEntry x + uptoBulkEntries r
def uptoBulkEntry {H : Type} : Lit × DataW H → Nat
  | (.string bytes, d) => bytes.length + uptoBulk d + 1
  | (_, d) => uptoBulk d + 1
 end
def uptoSmall : (H : Type) → List (DataW H) → Bool := fun _ ds => decide (uptoBulkAll ds ≤ 1048576)
def OpenSpec.upto (s : _root_.Go.ChangeSpec) : _root_.Go.OpenSpec := { _root_.Go.OpenSpec.ofChange s with cond := some uptoSmall }

/-- 'laws.FnExactLinked', WHERE WHAT IT READS IS OF BULK AT MOST 1048576: true; the input reads as it did. -/
def fnExactLinkedUptoRow : OpenClaim := { program := "ytgbfemglimebdaagreat", sum := "b0536bf975d623defc96fd6ba1a63bcccac1e7d2062a43f49a5a1c5f201e8a96", func := "loop.example/g00494/laws.FnExactLinked", spec := "fnExactLinked", unfollowed := true, recurses := true, apart := false, narrowed := true }
def FnExactLinkedUptoSaid : Prop := fnExactLinkedUptoRow.holds Tryz.pinned (OpenSpec.upto fnExactLinkedSpec)

/-- 'laws.FnExactPassed', WHERE WHAT IT READS IS OF BULK AT MOST 1048576: true; the input reads as it did. -/
def fnExactPassedUptoRow : OpenClaim := { program := "ytgbfemglimebdaagreat", sum := "b0536bf975d623defc96fd6ba1a63bcccac1e7d2062a43f49a5a1c5f201e8a96", func := "loop.example/g00494/laws.FnExactPassed", spec := "fnExactPassed", unfollowed := true, recurses := true, apart := false, narrowed := true }
def FnExactPassedUptoSaid : Prop := fnExactPassedUptoRow.holds Tryz.pinned (OpenSpec.upto fnExactPassedSpec)

/-- 'laws.FnExactChance', WHERE WHAT IT READS IS OF BULK AT MOST 1048576: true; the input reads as it did. -/
def fnExactChanceUptoRow : OpenClaim := { program := "ytgbfemglimebdaagreat", sum := "b0536bf975d623defc96fd6ba1a63bcccac1e7d2062a43f49a5a1c5f201e8a96", func := "loop.example/g00494/laws.FnExactChance", spec := "fnExactChance", inPlace := ["slices.overlaps[loop.example/g00494/impl.Party]", "slices.overlaps[loop.example/g00494/impl.Entry]"], unfollowed := true, recurses := true, apart := false, narrowed := true }
def FnExactChanceUptoSaid : Prop := fnExactChanceUptoRow.holds Tryz.pinned (OpenSpec.upto fnExactChanceSpec)

/-- 'laws.FnExactChainTo', WHERE WHAT IT READS IS OF BULK AT MOST 1048576: true; the input reads as it did. -/
def fnExactChainToUptoRow : OpenClaim := { program := "ytgbfemglimebdaagreat", sum := "b0536bf975d623defc96fd6ba1a63bcccac1e7d2062a43f49a5a1c5f201e8a96", func := "loop.example/g00494/laws.FnExactChainTo", spec := "fnExactChainTo", unfollowed := true, recurses := true, apart := false, narrowed := true }
def FnExactChainToUptoSaid : Prop := fnExactChainToUptoRow.holds Tryz.pinned (OpenSpec.upto fnExactChainToSpec)

end Rows
end Go.Proofs.YtgbfemglimebdaaGreat
