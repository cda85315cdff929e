/- Requests, one behind the other, on the reference's side. -/
import Derived.Test.YtejojcoaohlfbaaGreatDN
import Derived.Test.YtejojcoaohlfbaaGreatSx9
import Derived.Test.YtejojcoaohlfbaaGreatMdb5
namespace Go.Proofs.YtejojcoaohlfbaaGreat
namespace SX
open Go Go.RowKit
set_option linter.unusedVariables false
set_option linter.unusedSimpArgs false
set_option maxRecDepth 10000
set_option maxHeartbeats 1000000
attribute [local irreducible] CD DN OPL AT QL QT CND RETG BKP HL HT HO slA slHo slP ptC pull pulls
set_option maxHeartbeats 4000000
theorem do_sz9 {h : House} {q : Req} (hs : HouseSz h) : HouseSz (doM h q) := by
  by_cases hv : verdict h q = 0
  · exact (do_hp (verdict_ok hv).hp).sz
  · rw [do_no hv]; exact hs
theorem all_end {h x : House} {l : List Req} {k : Nat} {rs : List (Int × List Int)} (hk : ¬ k < l.length) (h1 : x = doAllM h (l.take k)) (h2 : rs = replGo h (l.take k)) : x = doAllM h l ∧ rs = replGo h l := by
  rw [List.take_of_length_le (by omega)] at h1 h2; exact ⟨h1, h2⟩
theorem all_step {h x : House} {l : List Req} {k : Nat} {rs : List (Int × List Int)} (hk : k < l.length) (h1 : x = doAllM h (l.take k)) (h2 : rs = replGo h (l.take k)) : doM x l[k] = doAllM h (l.take (k + 1)) ∧ rs ++ [(verdict x l[k], idsM x l[k])] = replGo h (l.take (k + 1)) := by
  rw [doAll_snoc hk, repl_snoc l h k hk, ← h1, ← h2]; exact ⟨rfl, rfl⟩
theorem all_len {h : House} {l : List Req} {k : Nat} {rs : List (Int × List Int)} (h2 : rs = replGo h (l.take k)) : rs.length ≤ k := by
  rw [h2, repl_len, List.length_take]; omega
end SX
end Go.Proofs.YtejojcoaohlfbaaGreat
