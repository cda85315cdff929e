/- Rounds; a house that settles. -/
import Derived.Test.YtapbooddmdkgjaaGreatCD
import Derived.Test.YtapbooddmdkgjaaGreatDB
import Derived.Test.YtapbooddmdkgjaaGreatDD
namespace Go.Proofs.YtapbooddmdkgjaaGreat
namespace SX
open Go Go.RowKit
set_option linter.unusedVariables false
set_option linter.unusedSimpArgs false
set_option maxRecDepth 10000
set_option maxHeartbeats 1000000
attribute [local irreducible] CD DN OPL AT QL QT CND RETG BKP HL HT HO slA slHo slP ptC pull pulls
instance iRound_c : HC 37 (∀ (W : World) (cs : List Value) (h : House), HsR W cs h → HouseSz h →Sp W [] 37 #[.agg cs.toArray] (RT2 (RHs (roundM h)) (RV (vi (verdict h ⟨6, 0, 0, 0, 0, 0⟩))))) := by
 refine ⟨fun W cs h hh hsz => ?_⟩
 have hh1 := hh; obtain ⟨a1, c1, a2, c2, a3, c3, a4, c4, a5, c5, rfl, h1, h2, h3, h4, h5, h6, h7, h8, h9, h10⟩ := hh
 refine gENT (vs := [_]) Tryz.func37 ?_
 by_cases hv : verdict h ⟨6, 0, 0, 0, 0, 0⟩ = 0
 · obtain ⟨p1, p2, p3⟩ := tick_facts hv
   have hs2 := (do_hp (q := ⟨6, 0, 0, 0, 0, 0⟩) p1).sz
   have hr : roundM h = drained (doM h ⟨6, 0, 0, 0, 0, 0⟩) := by rw [roundM, if_pos hv]
   rw [hr]
   repeat' first | refine ST ?_ | intro _ | apply And.intro
   all_goals first | exact absurd hv ‹verdict h _ ≠ 0› | exact hv.symm | rfl | trace_state
 · have hr : roundM h = h := by rw [roundM, if_neg hv]
   have hd : doM h ⟨6, 0, 0, 0, 0, 0⟩ = h := by rw [doM, if_neg hv]
   rw [hr]
   repeat' first | refine ST ?_ | intro _ | apply And.intro
   all_goals first | exact absurd ‹_› hv | exact hd | rfl | trace_state
end SX
end Go.Proofs.YtapbooddmdkgjaaGreat
