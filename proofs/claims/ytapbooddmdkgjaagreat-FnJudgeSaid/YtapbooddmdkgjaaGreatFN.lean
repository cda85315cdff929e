/- Texts of this claim, put together by program. -/
import Derived.Test.YtapbooddmdkgjaaGreatFK
import Derived.Test.YtapbooddmdkgjaaGreatFL
import Derived.Test.YtapbooddmdkgjaaGreatFI
/- Draws: houses that may be wrong. -/
namespace Go.Proofs.YtapbooddmdkgjaaGreat
namespace SX
open Go Go.RowKit
set_option linter.unusedVariables false
set_option linter.unusedSimpArgs false
set_option maxRecDepth 10000
set_option maxHeartbeats 1000000
attribute [local irreducible] CD DN OPL AT QL QT CND RETG BKP HL HT HO slA slHo slP ptC pull pulls
attribute [local irreducible] curO keepA RWk IsCur
theorem wrm1 {n : Nat} (h : 1 ≤ n) (h2 : n ≤ 4) : wr ((n : Int) - 1) = (n : Int) - 1 := wr_of (by omega) (by omega)
instance s11Draw_c : HC 113 (∀ (W : World) (d : Kd) (p : Value), IsCur p d →Sp W [cuA d p] 113 #[p] (WHo HouseSz [cuA d p])) := by
 refine ⟨fun W d p _ => ?_⟩
 refine gENTO (vs := [_]) Tryz.func113 (fun S0 => ?_)
 repeat' first | (refine idHO ?_; refine goC ?_; refine hCW (fn := 204) (hcon := by intro c w hw; exact c w d p _ (‹House› : House).rules _ _ isCur ⟨_, _, rfl, rfl⟩) (hp := plS PU (plS PU pl0)) (k := ?_)) | (refine idHO ?_; refine goT ?_; refine hCHO (h0 := by rw [wrm1 (‹hpr _›).1 (‹hpr _›).2.1]; have := (‹hpr _›).1; omega) (hz := by rw [wrm1 (‹hpr _›).1 (‹hpr _›).2.1]; omega) (k := ?_)) | refine STD ?_ | refine ST ?_ | refine ST2 ?_ | refine ST3 ?_ | intro _ | apply And.intro
 all_goals have hq : hpr _ := ‹hpr _›
 all_goals obtain ⟨q1, q2, q3, q4, q5, q6, q7⟩ := hq
 all_goals try dsimp only at *
 all_goals first
  | omega
  | (simp only [List.length_append, List.length_cons, List.length_nil, List.length_set, List.length_take]; omega)
  | exact (q7 _ (by assumption)).1 | exact (q7 _ (by assumption)).2.1 | exact (q7 _ (by assumption)).2.2
  | exact (mem_set_of q7 ‹CabinSz _› _ (by assumption)).1 | exact (mem_set_of q7 ‹CabinSz _› _ (by assumption)).2.1 | exact (mem_set_of q7 ‹CabinSz _› _ (by assumption)).2.2
  | exact (q7 _ (List.mem_of_mem_take (by assumption))).1 | exact (q7 _ (List.mem_of_mem_take (by assumption))).2.1 | exact (q7 _ (List.mem_of_mem_take (by assumption))).2.2
  | trace_state
end SX
end Go.Proofs.YtapbooddmdkgjaaGreat
/- Draws of the laws about houses. -/
namespace Go.Proofs.YtapbooddmdkgjaaGreat
namespace SX
open Go Go.RowKit
set_option linter.unusedVariables false
set_option linter.unusedSimpArgs false
set_option maxRecDepth 10000
set_option maxHeartbeats 1000000
attribute [local irreducible] CD DN OPL AT QL QT CND RETG BKP HL HT HO slA slHo slP ptC pull pulls
attribute [local irreducible] curO keepA RWk IsCur
instance s12Edge_c : HC 111 (∀ (W : World) (d : Kd) (p : Value), IsCur p d →Sp W [cuA d p] 111 #[p] (WHo HouseSz [cuA d p])) := by
 refine ⟨fun W d p _ => ?_⟩
 refine gENTO (vs := [_]) Tryz.func111 (fun S0 => ?_)
 repeat' first | refine STD ?_ | refine ST ?_ | refine ST2 ?_ | refine ST3 ?_ | intro _ | apply And.intro
 all_goals have hq : hpr _ := ‹hpr _›
 all_goals obtain ⟨q1, q2, q3, q4, q5, q6, q7⟩ := hq
 all_goals try dsimp only at *
 all_goals first
  | omega
  | (simp only [List.length_nil]; omega)
  | exact (q7 _ (by assumption)).1 | exact (q7 _ (by assumption)).2.1 | exact (q7 _ (by assumption)).2.2
  | trace_state
instance sDrawDrained_c : HC 80 (∀ (W : World) (d : Kd) (v : Value), IsKd v d →Sp W [keepA d] 80 #[v] (WHo HouseSz [keepA d])) := by
 refine ⟨fun W d v _ => ?_⟩
 refine gENTO (vs := [_]) Tryz.func80 (fun S0 => ?_)
 repeat' first | exact ‹HouseSz _› | (refine idRN ?_; refine cCK (k := ?_)) | refine STD ?_ | refine ST ?_ | refine ST2 ?_ | intro _ | apply And.intro
 all_goals first | assumption | trace_state
instance sDrawAcceptAll_c : HC 27 (∀ (W : World) (d : Kd) (v : Value), IsKd v d →Sp W [keepA d] 27 #[v] (WHo HouseSz [keepA d])) := by
 refine ⟨fun W d v _ => ?_⟩
 refine gENTO (vs := [_]) Tryz.func27 (fun S0 => ?_)
 repeat' first | exact ‹HouseSz _› | refine STD ?_ | refine ST ?_ | refine ST2 ?_ | intro _ | apply And.intro
 all_goals first | assumption | trace_state
instance sDrawRound_c : HC 36 (∀ (W : World) (d : Kd) (v : Value), IsKd v d →Sp W [keepA d] 36 #[v] (WHo HouseSz [keepA d])) := by
 refine ⟨fun W d v _ => ?_⟩
 refine gENTO (vs := [_]) Tryz.func36 (fun S0 => ?_)
 repeat' first | exact ‹HouseSz _› | refine STD ?_ | refine ST ?_ | refine ST2 ?_ | intro _ | apply And.intro
 all_goals first | assumption | trace_state
instance sDrawSettle_c : HC 42 (∀ (W : World) (d : Kd) (v : Value), IsKd v d →Sp W [keepA d] 42 #[v] (RW2 (α := House) (β := Int) (ι := H5) (fun x => HouseSz x.1) hV hO9 (fun z => vi z) [keepA d])) := by
 refine ⟨fun W d v _ => ?_⟩
 refine gENTO (vs := [_]) Tryz.func42 (fun S0 => ?_)
 repeat' first | exact ‹HouseSz _› | (refine idRN ?_; refine cCK (k := ?_)) | refine STD ?_ | refine ST ?_ | refine ST2 ?_ | intro _ | apply And.intro
 all_goals first | assumption | trace_state
end SX
end Go.Proofs.YtapbooddmdkgjaaGreat
