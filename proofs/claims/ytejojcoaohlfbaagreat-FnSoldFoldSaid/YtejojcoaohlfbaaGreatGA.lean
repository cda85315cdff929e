/- Texts of this claim, put together by program. -/
import Derived.Test.YtejojcoaohlfbaaGreatFK
import Derived.Test.YtejojcoaohlfbaaGreatFL
import Derived.Test.YtejojcoaohlfbaaGreatFI
/- Draws: houses that may be wrong. -/
namespace Go.Proofs.YtejojcoaohlfbaaGreat
namespace SX
open Go Go.RowKit
set_option linter.unusedVariables false
set_option linter.unusedSimpArgs false
set_option maxRecDepth 10000
set_option maxHeartbeats 1000000
attribute [local irreducible] CD DN OPL AT QL QT CND RETG BKP HL HT HO slA slHo slP ptC pull pulls
attribute [local irreducible] curO keepA RWk IsCur
theorem wrm1 {n : Nat} (h : 1 ≤ n) (h2 : n ≤ 4) : wr ((n : Int) - 1) = (n : Int) - 1 := wr_of (by omega) (by omega)
instance s11Draw_c : HC 107 (∀ (W : World) (d : Kd) (p : Value), IsCur p d →Sp W [cuA d p] 107 #[p] (WHo HouseSz [cuA d p])) := by
 refine ⟨fun W d p _ => ?_⟩
 refine gENTO (vs := [_]) Tryz.func107 (fun S0 => ?_)
 repeat' first | (refine idHO ?_; refine goC ?_; refine hCW (fn := 213) (hcon := by intro c w hw; exact c w d p _ (‹House› : House).rules _ _ isCur ⟨_, _, rfl, rfl⟩) (hp := plS PU (plS PU pl0)) (k := ?_)) | (refine idHO ?_; refine goT ?_; refine hCHO (h0 := by rw [wrm1 (‹hpr _›).1 (‹hpr _›).2.1]; have := (‹hpr _›).1; omega) (hz := by rw [wrm1 (‹hpr _›).1 (‹hpr _›).2.1]; omega) (k := ?_)) | refine STD ?_ | refine ST ?_ | refine ST2 ?_ | refine ST3 ?_ | intro _ | apply And.intro
 all_goals have hq : hpr _ := ‹hpr _›
 all_goals obtain ⟨q1, q2, q3, q4, q5, q6, q7⟩ := hq
 all_goals try dsimp only at *
 all_goals first
  | omega
  | (simp only [List.length_append, List.length_cons, List.length_nil, List.length_set, List.length_take]; omega)
  | exact (q7 _ (by assumption)).1 | exact (q7 _ (by assumption)).2.1 | exact (q7 _ (by assumption)).2.2
  | exact (mem_set_of q7 ‹CabinSz _› _ (by assumption)).1 | exact (mem_set_of q7 ‹CabinSz _› _ (by assumption)).2.1 | exact (mem_set_of q7 ‹CabinSz _› _ (by assumption)).2.2
  | exact (q7 _ (List.mem_of_mem_take (by assumption))).1 | exact (q7 _ (List.mem_of_mem_take (by assumption))).2.1 | exact (q7 _ (List.mem_of_mem_take (by assumption))).2.2
  | trace_state
end SX
end Go.Proofs.YtejojcoaohlfbaaGreat
/- Draws of the laws about houses. -/
namespace Go.Proofs.YtejojcoaohlfbaaGreat
namespace SX
open Go Go.RowKit
set_option linter.unusedVariables false
set_option linter.unusedSimpArgs false
set_option maxRecDepth 10000
set_option maxHeartbeats 1000000
attribute [local irreducible] CD DN OPL AT QL QT CND RETG BKP HL HT HO slA slHo slP ptC pull pulls
attribute [local irreducible] curO keepA RWk IsCur
end SX
end Go.Proofs.YtejojcoaohlfbaaGreat
/- Draws: requests that suit a house. -/
namespace Go.Proofs.YtejojcoaohlfbaaGreat
namespace SX
open Go Go.RowKit
set_option linter.unusedVariables false
set_option linter.unusedSimpArgs false
set_option maxRecDepth 10000
set_option maxHeartbeats 1000000
attribute [local irreducible] CD DN OPL AT QL QT CND RETG BKP HL HT HO slA slHo slP ptC pull pulls
attribute [local irreducible] curO keepA RWk IsCur IsKd
abbrev HsQ := HO9q 3 91 70 159 199 166
abbrev WReq (O : List Ass) : Res := RWk (α := Req) (ι := Unit) (fun _ => True) (fun x _ => .agg (reqE x).toArray) (fun _ _ => []) O
instance s1Long_c : HC 110 (∀ (W : World) (a : Option Addr) (n c : Nat) (x y : Int), 0 ≤ x → x ≤ 1000 → x ≤ y → n ≤ 9223372036854775807 →Sp W [] 110 #[.slice a n c, vi x, vi y] (RWk (α := Int) (ι := Unit) (fun z => x ≤ z ∧ z ≤ y) (fun z _ => vi z) (fun _ _ => []) [])) := by
 refine ⟨fun W a n c x y h0 h1 h2 h3 => ?_⟩
 have h4 : 0 ≤ Int.tdiv (n : Int) 4 ∧ Int.tdiv (n : Int) 4 ≤ 2305843009213693952 := by
  rw [Int.tdiv_eq_ediv_of_nonneg (by omega)]
  omega
 have h5 : IntKind.i64.wrap (Int.tdiv (n : Int) 4) = Int.tdiv (n : Int) 4 := wr_of (by omega) (by omega)
 have h6 : wr (x + Int.tdiv (n : Int) 4) = x + Int.tdiv (n : Int) 4 := wr_of (by omega) (by omega)
 refine gENT (vs := [_, _, _]) Tryz.func110 ?_
 repeat' first | refine STD ?_ | refine ST ?_ | refine ST2 ?_ | refine ST3 ?_ | intro _ | apply And.intro
 all_goals first | trivial | (simp only [h5, h6] at *; omega) | trace_state
theorem hpr_sz {x : House} (h : hpr x) : HouseSz x := by
  obtain ⟨q1, q2, q3, q4, q5, q6, q7⟩ := h
  exact ⟨by omega, by omega, by omega, by omega, by omega, q7⟩
theorem new_sz {r : Rules} {x : House × Bool} (h : x.1.cabins.length ≤ 4 ∧ (rulesOk r = true → x.1.rules = r ∧ x.1.cabins.length = r.seats.length) ∧ x.1.parties = [] ∧ x.1.todo = [] ∧ x.1.jobs.length ≤ 3 ∧ x.1.rules.seats.length ≤ 4 ∧ ∀ c ∈ x.1.cabins, CabinSz c) : HouseSz x.1 := by
  obtain ⟨q1, q2, q3, q4, q5, q6, q7⟩ := h
  exact ⟨by omega, by rw [q3]; simp, by omega, by rw [q4]; simp, by omega, q7⟩
instance s17Start_c : HC 105 (∀ (W : World) (d : Kd) (p : Value), IsCur p d →Sp W [cuA d p] 105 #[p] (WHo HouseSz [cuA d p])) := by
 refine ⟨fun W d p _ => ?_⟩
 refine gENTO (vs := [_]) Tryz.func105 (fun S0 => ?_)
 repeat' first | exact hpr_sz ‹hpr _› | exact new_sz ‹_› | refine STD ?_ | refine ST ?_ | refine ST2 ?_ | refine ST3 ?_ | intro _ | apply And.intro
 all_goals trace_state
end SX
end Go.Proofs.YtejojcoaohlfbaaGreat
