/- Texts of this claim, put together by program. -/
import Derived.Test.YtejojcoaohlfbaaGreatSx9
namespace Go.Proofs.YtejojcoaohlfbaaGreat
namespace SX
set_option linter.unusedVariables false
set_option linter.unusedSimpArgs false
open Go Go.RowKit
def upto (n : Nat) : List Int := (List.range n).map fun i : Nat => (i : Int)
theorem upto_snoc (k : Nat) : upto (k + 1) = upto k ++ [(k : Int)] := by simp [upto, List.range_succ]
theorem upto_len (k : Nat) : (upto k).length = k := by simp [upto]
noncomputable def unkept (h : House) (l : List Req) : List Int := if houseOk h then [] else upto l.length
theorem verd_bad {h : House} {q : Req} (hb : houseOk h = false) : verdict h q = 1 := by unfold verdict; rw [if_pos hb]
theorem do_bad {h : House} {q : Req} (hb : houseOk h = false) : doM h q = h := by
 unfold doM
 rw [if_neg (by rw [verd_bad hb]; decide)]
end SX
end Go.Proofs.YtejojcoaohlfbaaGreat
