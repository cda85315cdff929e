/- The draw of the law of the judge. -/
import Derived.Test.YtejojcoaohlfbaaGreatFK
import Derived.Test.YtejojcoaohlfbaaGreatFI
import Derived.Test.YtejojcoaohlfbaaGreatAS
import Derived.Test.YtejojcoaohlfbaaGreatLC
namespace Go.Proofs.YtejojcoaohlfbaaGreat
namespace SX
open Go Go.RowKit
set_option linter.unusedVariables false
set_option linter.unusedSimpArgs false
set_option maxRecDepth 10000
set_option maxHeartbeats 1000000
attribute [local irreducible] CD DN OPL AT QL QT CND RETG BKP HL HT HO slA slHo slP ptC pull pulls
attribute [local irreducible] curO keepA RWk IsCur
theorem zdD {n : Nat} (h : 1 ≤ n) (h2 : n ≤ 4) : wr ((n : Int) - 1) = (n : Int) - 1 := wr_of (by omega) (by omega)
instance zdk : HC 107 (∀ (W : World) (d : Kd) (p : Value), IsCur p d →Sp W [cuA d p] 107 #[p] (WHo HouseSz [cuA d p])) := by
 refine ⟨fun W d p _ => ?_⟩
 refine gENTO (vs := [_]) Tryz.func107 (fun S0 => ?_)
 repeat' first | (refine idHO ?_; refine goC ?_; refine hCW (fn := 213) (hcon := by intro c w hw; exact c w d p _ (‹House› : House).rules _ _ zcM ⟨_, _, rfl, rfl⟩) (hp := plS PU (plS PU pl0)) (k := ?_)) | (refine idHO ?_; refine goT ?_; refine zdt (h0 := by rw [zdD (‹hpr _›).1 (‹hpr _›).2.1]; have := (‹hpr _›).1; omega) (hz := by rw [zdD (‹hpr _›).1 (‹hpr _›).2.1]; omega) (k := ?_)) | refine STD ?_ | refine ST ?_ | refine ST2 ?_ | refine ST3 ?_ | intro _ | apply And.intro
 all_goals have hq : hpr _ := ‹hpr _›
 all_goals obtain ⟨q1, q2, q3, q4, q5, q6, q7⟩ := hq
 all_goals try dsimp only at *
 all_goals first
  | omega
  | (simp only [List.length_append, List.length_cons, List.length_nil, List.length_set, List.length_take]; omega)
  | exact (q7 _ (by assumption)).1 | exact (q7 _ (by assumption)).2.1 | exact (q7 _ (by assumption)).2.2
  | exact (mem_set_of q7 ‹CabinSz _› _ (by assumption)).1 | exact (mem_set_of q7 ‹CabinSz _› _ (by assumption)).2.1 | exact (mem_set_of q7 ‹CabinSz _› _ (by assumption)).2.2
  | exact (q7 _ (List.mem_of_mem_take (by assumption))).1 | exact (q7 _ (List.mem_of_mem_take (by assumption))).2.1 | exact (q7 _ (List.mem_of_mem_take (by assumption))).2.2
instance zda : HC 157 (∀ (W : World) (d : Kd) (p : Value), IsCur p d →Sp W [cuA d p] 157 #[p] (WHo HouseSz [cuA d p])) := by
 refine ⟨fun W d p _ => ?_⟩
 refine gENTO (vs := [_]) Tryz.func157 (fun S0 => ?_)
 repeat' first | refine STD ?_ | refine ST ?_ | refine ST2 ?_ | refine ST3 ?_ | intro _ | apply And.intro
 all_goals have hq : hpr _ := ‹hpr _›
 all_goals obtain ⟨q1, q2, q3, q4, q5, q6, q7⟩ := hq
 all_goals try dsimp only at *
 all_goals first
  | omega
  | (simp only [List.length_nil]; omega)
  | exact (q7 _ (by assumption)).1 | exact (q7 _ (by assumption)).2.1 | exact (q7 _ (by assumption)).2.2
attribute [local irreducible] zaH
instance zdj : HC 145 (∀ (W : World) (d : Kd) (v : Value), zaH v d →Sp W [keepA d] 145 #[v] (RW2 (α := House) (β := Int) (ι := H5) (fun x => HouseSz x.1) hV hO9 (fun z => vi z) [keepA d])) := by
 refine ⟨fun W d v _ => ?_⟩
 refine gENTO (vs := [_]) Tryz.func145 (fun S0 => ?_)
 repeat' first | exact ‹HouseSz _› | (refine idRN ?_; refine cCK (k := ?_)) | refine STD ?_ | refine ST ?_ | refine ST2 ?_ | intro _ | apply And.intro
 all_goals first | assumption
end SX
end Go.Proofs.YtejojcoaohlfbaaGreat
