/- Texts of this claim, put together by program. -/
import Derived.Test.YtejojcoaohlfbaaGreatFE
import Derived.Test.YtejojcoaohlfbaaGreatA9
/- Draws: parties. -/
namespace Go.Proofs.YtejojcoaohlfbaaGreat
namespace SX
open Go Go.RowKit
set_option linter.unusedVariables false
set_option linter.unusedSimpArgs false
set_option maxRecDepth 10000
set_option maxHeartbeats 1000000
attribute [local irreducible] CD DN OPL AT QL QT CND RETG BKP HL HT HO slA slHo slP ptC pull pulls
attribute [local irreducible] curO keepA RWk IsCur
abbrev RuH (cs : List Value) (r : Rules) (pre : List Ass) : Prop := ∃ (a : Option Addr) (c : Nat), cs = [.slice a r.seats.length c, vi r.tiers, vi r.room, vi r.size, vi r.period, vi r.window, vi r.rest, vi r.tries, vi r.crew] ∧ pre = [slA 3 intL (.slice a r.seats.length c) r.seats]
instance s6Right_c : HC 303 (∀ (W : World) (d : Kd) (p : Value) (n : Nat) (x1 x2 x3 x4 x5 x6 x7 x8 : Int) (now : Int) (a : Option Addr) (c : Nat), IsCur p d →Sp W [cuA d p] 303 #[p, .agg #[.slice a n c, vi x1, vi x2, vi x3, vi x4, vi x5, vi x6, vi x7, vi x8], vi now] (WParty [cuA d p])) := by
 refine ⟨fun W d p n x1 x2 x3 x4 x5 x6 x7 x8 now a c _ => ?_⟩
 refine gENTO (vs := [_, _, _]) Tryz.func303 (fun S0 => ?_)
 repeat' first | refine STD ?_ | refine ST ?_ | refine ST2 ?_ | refine ST3 ?_ | intro _ | apply And.intro
 all_goals first | trivial | trace_state
end SX
end Go.Proofs.YtejojcoaohlfbaaGreat
/- Draws: parties that may be wrong. -/
namespace Go.Proofs.YtejojcoaohlfbaaGreat
namespace SX
open Go Go.RowKit
set_option linter.unusedVariables false
set_option linter.unusedSimpArgs false
set_option maxRecDepth 10000
set_option maxHeartbeats 1000000
attribute [local irreducible] CD DN OPL AT QL QT CND RETG BKP HL HT HO slA slHo slP ptC pull pulls
attribute [local irreducible] curO keepA RWk IsCur
instance s6Bent_c : HC 213 (∀ (W : World) (d : Kd) (p : Value) (cs : List Value) (r : Rules) (pre : List Ass) (now : Int), IsCur p d → RuH cs r pre →Sp W (cuA d p :: pre) 213 #[p, .agg cs.toArray, vi now] (WParty (cuA d p :: pre))) := by
 refine ⟨fun W d p cs r pre now _ ⟨a, c, e1, e2⟩ => ?_⟩
 subst e1 e2
 refine gENTO (vs := [_, _, _]) Tryz.func213 (fun S0 => ?_)
 repeat' first | refine STD ?_ | refine ST ?_ | refine ST2 ?_ | refine ST3 ?_ | intro _ | apply And.intro
 all_goals first | trivial | trace_state
end SX
end Go.Proofs.YtejojcoaohlfbaaGreat
