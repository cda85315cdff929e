/-
  No cell of these rows narrows 'for every input' (looked for: loops, veiled, ifaces, maps, wideKeys, modest, calm, conditions, laid).
  DERIVED. THE GIVEN ROWS OF THIS SEAT. 5 by the template 'for every input the law returns true; each argument reads behind the call as it read before'; 0 by the template 'total and deterministic' (their statements: YtcjaeedkhlnegaaTotals.lean).
  GIVEN WITH THE SEED: the statements are not yours to turn. If you find one false, say at which input.
  Laid BY PROGRAM, IN A SANDBOX (cutbox-rows.mjs): the forced cells as the released guide's own fill.sh prints them over the translation dbefef4862aefb85… (all of the seat's roots in one cut). By AI agents, Wed Nov 11 2026. No macro, syntax, notation, axiom, sorry.
-/
import Derived.Test.YtcjaeedkhlnegaaChecked
import GoSem.Claim
import GoSem.ClaimJoined
import GoSem.ClaimMapViews
import Derived.JoinedTies
import Derived.KernelRfl
namespace Go.Proofs.Ytcjaeedkhlnegaa
/- THE CELL 'sum', in the pinned program and in every row, IS THE sha256 OF THE DUMP (.gsa) THAT YtcjaeedkhlnegaaProg.lean LOADS. Nothing in Lean hashes anything: it is a label: what it is worth is what the hold of that sum in a sandbox is worth. -/
noncomputable def Try.pinned : Pinned := { name := "ytcjaeedkhlnegaa", sum := "dbefef4862aefb85fd638ad6f424084968641fb199d44cd87e5b258ffd7775c1", checked := Try.checked }
namespace Rows
def none {H : Type} : Left H := { results := [], args := [] }

/-- 'laws.FnExactLogMost': WHATEVER THE INPUT: true; the input reads as it did. -/
def fnExactLogMostSpec : ChangeSpec := { name := "fnExactLogMost", fn := fun _ => fun
  | [d] => { results := [.lit (.bool true)], args := [d] }
  | _ => none }
def fnExactLogMostRow : OpenClaim := { program := "ytcjaeedkhlnegaa", sum := "dbefef4862aefb85fd638ad6f424084968641fb199d44cd87e5b258ffd7775c1", func := "loop.example/g00494/laws.FnExactLogMost", spec := "fnExactLogMost", apart := false }
def FnExactLogMostSaid : Prop := fnExactLogMostRow.holds Try.pinned (OpenSpec.ofChange fnExactLogMostSpec)

/-- ITS FALSE NEIGHBOUR: 'it returns false'. Refute it at one input. -/
def fnExactLogMostWrong : ChangeSpec := { name := "fnExactLogMost", fn := fun _ => fun
  | [d] => { results := [.lit (.bool false)], args := [d] }
  | _ => none }
def FnExactLogMostWrongFalsely : Prop := fnExactLogMostRow.holds Try.pinned (OpenSpec.ofChange fnExactLogMostWrong)

/-- 'laws.FnExactEnoughFor': WHATEVER THE INPUT: true; the input reads as it did. -/
def fnExactEnoughForSpec : ChangeSpec := { name := "fnExactEnoughFor", fn := fun _ => fun
  | [d1, d2] => { results := [.lit (.bool true)], args := [d1, d2] }
  | _ => none }
def fnExactEnoughForRow : OpenClaim := { program := "ytcjaeedkhlnegaa", sum := "dbefef4862aefb85fd638ad6f424084968641fb199d44cd87e5b258ffd7775c1", func := "loop.example/g00494/laws.FnExactEnoughFor", spec := "fnExactEnoughFor", apart := false }
def FnExactEnoughForSaid : Prop := fnExactEnoughForRow.holds Try.pinned (OpenSpec.ofChange fnExactEnoughForSpec)

/-- ITS FALSE NEIGHBOUR: 'it returns false'. Refute it at one input. -/
def fnExactEnoughForWrong : ChangeSpec := { name := "fnExactEnoughFor", fn := fun _ => fun
  | [d1, d2] => { results := [.lit (.bool false)], args := [d1, d2] }
  | _ => none }
def FnExactEnoughForWrongFalsely : Prop := fnExactEnoughForRow.holds Try.pinned (OpenSpec.ofChange fnExactEnoughForWrong)

/-- 'laws.FnExactSnapMost': WHATEVER THE INPUT: true; the input reads as it did. -/
def fnExactSnapMostSpec : ChangeSpec := { name := "fnExactSnapMost", fn := fun _ => fun
  | [d] => { results := [.lit (.bool true)], args := [d] }
  | _ => none }
def fnExactSnapMostRow : OpenClaim := { program := "ytcjaeedkhlnegaa", sum := "dbefef4862aefb85fd638ad6f424084968641fb199d44cd87e5b258ffd7775c1", func := "loop.example/g00494/laws.FnExactSnapMost", spec := "fnExactSnapMost", apart := false }
def FnExactSnapMostSaid : Prop := fnExactSnapMostRow.holds Try.pinned (OpenSpec.ofChange fnExactSnapMostSpec)

/-- ITS FALSE NEIGHBOUR: 'it returns false'. Refute it at one input. -/
def fnExactSnapMostWrong : ChangeSpec := { name := "fnExactSnapMost", fn := fun _ => fun
  | [d] => { results := [.lit (.bool false)], args := [d] }
  | _ => none }
def FnExactSnapMostWrongFalsely : Prop := fnExactSnapMostRow.holds Try.pinned (OpenSpec.ofChange fnExactSnapMostWrong)

/-- 'laws.FnExactActOk': WHATEVER THE INPUT: true; the input reads as it did. -/
def fnExactActOkSpec : ChangeSpec := { name := "fnExactActOk", fn := fun _ => fun
  | [d] => { results := [.lit (.bool true)], args := [d] }
  | _ => none }
def fnExactActOkRow : OpenClaim := { program := "ytcjaeedkhlnegaa", sum := "dbefef4862aefb85fd638ad6f424084968641fb199d44cd87e5b258ffd7775c1", func := "loop.example/g00494/laws.FnExactActOk", spec := "fnExactActOk", unfollowed := true, recurses := true, apart := false }
def FnExactActOkSaid : Prop := fnExactActOkRow.holds Try.pinned (OpenSpec.ofChange fnExactActOkSpec)

/-- ITS FALSE NEIGHBOUR: 'it returns false'. Refute it at one input. -/
def fnExactActOkWrong : ChangeSpec := { name := "fnExactActOk", fn := fun _ => fun
  | [d] => { results := [.lit (.bool false)], args := [d] }
  | _ => none }
def FnExactActOkWrongFalsely : Prop := fnExactActOkRow.holds Try.pinned (OpenSpec.ofChange fnExactActOkWrong)

/-- 'laws.FnExactNoteLen': WHATEVER THE INPUT: true; the input reads as it did. -/
def fnExactNoteLenSpec : ChangeSpec := { name := "fnExactNoteLen", fn := fun _ => fun
  | [d] => { results := [.lit (.bool true)], args := [d] }
  | _ => none }
def fnExactNoteLenRow : OpenClaim := { program := "ytcjaeedkhlnegaa", sum := "dbefef4862aefb85fd638ad6f424084968641fb199d44cd87e5b258ffd7775c1", func := "loop.example/g00494/laws.FnExactNoteLen", spec := "fnExactNoteLen", unfollowed := true, recurses := true, apart := false }
def FnExactNoteLenSaid : Prop := fnExactNoteLenRow.holds Try.pinned (OpenSpec.ofChange fnExactNoteLenSpec)

/-- ITS FALSE NEIGHBOUR: 'it returns false'. Refute it at one input. -/
def fnExactNoteLenWrong : ChangeSpec := { name := "fnExactNoteLen", fn := fun _ => fun
  | [d] => { results := [.lit (.bool false)], args := [d] }
  | _ => none }
def FnExactNoteLenWrongFalsely : Prop := fnExactNoteLenRow.holds Try.pinned (OpenSpec.ofChange fnExactNoteLenWrong)

/- THE SECOND FORM. 'bulk': how many values and letters a reading holds, each counted each time it is reached (what is shared counts as often as it is met; a slice's spare places count too). A statement '..UptoSaid' is the law's where the arguments, and the package variables that the reading takes, are together of bulk at most 1048576: NARROWER than '..Said'. Prove '..Said' where nothing that the law and all that it calls make is longer than what came in: it says more and counts as full. Else prove '..UptoSaid'. A law counts once. -/
mutual
def uptoBulk {H : Type} : DataW H → Nat
  | .lit (.string bytes) => bytes.length + 1
  | .lit _ => 1
  | .nil => 1
  | .ptr d => uptoBulk d + 1
  | .slice elems spare => uptoBulkAll elems + uptoBulkAll spare + 1
  | .agg parts => uptoBulkAll parts + 1
  | .iface _ d => uptoBulk d + 1
  | .map entries => uptoBulkEntries entries + 1
  | .held _ => 1
def uptoBulkAll {H : Type} : List (DataW H) → Nat
  | [] => 0
  | d :: r => uptoBulk d + uptoBulkAll r
def uptoBulkEntries {H : Type} : List (Lit × DataW H) → Nat
  | [] => 0
  | x :: r => uptoBulkEntry x + uptoBulkEntries r
def uptoBulkEntry {H : Type} : Lit × DataW H → Nat
  | (.string bytes, d) => bytes.length + uptoBulk d + 1
  | (_, d) => uptoBulk d + 1
 end
def uptoSmall : (H : Type) → List (DataW H) → Bool := fun _ ds => decide (uptoBulkAll ds ≤ 1048576)
def OpenSpec.upto (s : _root_.Go.ChangeSpec) : _root_.Go.OpenSpec := { _root_.Go.OpenSpec.ofChange s with cond := some uptoSmall }

/-- 'laws.FnExactLogMost', WHERE WHAT IT READS IS OF BULK AT MOST 1048576: true; the input reads as it did. -/
def fnExactLogMostUptoRow : OpenClaim := { program := "ytcjaeedkhlnegaa", sum := "dbefef4862aefb85fd638ad6f424084968641fb199d44cd87e5b258ffd7775c1", func := "loop.example/g00494/laws.FnExactLogMost", spec := "fnExactLogMost", apart := false, narrowed := true }
def FnExactLogMostUptoSaid : Prop := fnExactLogMostUptoRow.holds Try.pinned (OpenSpec.upto fnExactLogMostSpec)

/-- 'laws.FnExactEnoughFor', WHERE WHAT IT READS IS OF BULK AT MOST 1048576: true; the input reads as it did. -/
def fnExactEnoughForUptoRow : OpenClaim := { program := "ytcjaeedkhlnegaa", sum := "dbefef4862aefb85fd638ad6f424084968641fb199d44cd87e5b258ffd7775c1", func := "loop.example/g00494/laws.FnExactEnoughFor", spec := "fnExactEnoughFor", apart := false, narrowed := true }
def FnExactEnoughForUptoSaid : Prop := fnExactEnoughForUptoRow.holds Try.pinned (OpenSpec.upto fnExactEnoughForSpec)

/-- 'laws.FnExactSnapMost', WHERE WHAT IT READS IS OF BULK AT MOST 1048576: true; the input reads as it did. -/
def fnExactSnapMostUptoRow : OpenClaim := { program := "ytcjaeedkhlnegaa", sum := "dbefef4862aefb85fd638ad6f424084968641fb199d44cd87e5b258ffd7775c1", func := "loop.example/g00494/laws.FnExactSnapMost", spec := "fnExactSnapMost", apart := false, narrowed := true }
def FnExactSnapMostUptoSaid : Prop := fnExactSnapMostUptoRow.holds Try.pinned (OpenSpec.upto fnExactSnapMostSpec)

/-- 'laws.FnExactActOk', WHERE WHAT IT READS IS OF BULK AT MOST 1048576: true; the input reads as it did. -/
def fnExactActOkUptoRow : OpenClaim := { program := "ytcjaeedkhlnegaa", sum := "dbefef4862aefb85fd638ad6f424084968641fb199d44cd87e5b258ffd7775c1", func := "loop.example/g00494/laws.FnExactActOk", spec := "fnExactActOk", unfollowed := true, recurses := true, apart := false, narrowed := true }
def FnExactActOkUptoSaid : Prop := fnExactActOkUptoRow.holds Try.pinned (OpenSpec.upto fnExactActOkSpec)

/-- 'laws.FnExactNoteLen', WHERE WHAT IT READS IS OF BULK AT MOST 1048576: true; the input reads as it did. -/
def fnExactNoteLenUptoRow : OpenClaim := { program := "ytcjaeedkhlnegaa", sum := "dbefef4862aefb85fd638ad6f424084968641fb199d44cd87e5b258ffd7775c1", func := "loop.example/g00494/laws.FnExactNoteLen", spec := "fnExactNoteLen", unfollowed := true, recurses := true, apart := false, narrowed := true }
def FnExactNoteLenUptoSaid : Prop := fnExactNoteLenUptoRow.holds Try.pinned (OpenSpec.upto fnExactNoteLenSpec)

end Rows
end Go.Proofs.Ytcjaeedkhlnegaa
