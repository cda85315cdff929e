/- Draws: a request that suits a house. -/
import Derived.Test.YtejojcoaohlfbaaGreatGA
import Derived.Test.YtejojcoaohlfbaaGreatSx9
namespace Go.Proofs.YtejojcoaohlfbaaGreat
namespace SX
open Go Go.RowKit
set_option linter.unusedVariables false
set_option linter.unusedSimpArgs false
set_option maxRecDepth 10000
set_option maxHeartbeats 1000000
attribute [local irreducible] CD DN OPL AT QL QT CND RETG BKP HL HT HO slA slHo slP ptC pull pulls
attribute [local irreducible] curO keepA RWk IsCur IsKd
section rules
variable {X : List Nat} {P : Program} {N : Nat} {W : World} {S0 : List Nat} {Q : Exit → Go.Act → World → Prop} {T : Tm} {L : Bx} {C : List Ass}
theorem idR9 {ops : Array Oper} {q : Bool} (r : Nat) (k : CD X P N W S0 (.region r ops q) Q T L C) : CD X P N W S0 (.region r ops q) Q T L C := k
end rules
instance s12Right_c : HC 215 (∀ (W : World) (d : Kd) (p : Value) (q : H5) (cs : List Value) (h : House) (hq : List Ass), IsCur p d → HsQ q cs h hq → h.parties.length ≤ 1048576 →Sp W (cuA d p :: hq) 215 #[p, .agg cs.toArray] (WReq (cuA d p :: hq))) := by
 refine ⟨fun W d p q cs h hq _ hh hb => ?_⟩
 obtain ⟨⟨a1, c1⟩, ⟨a2, c2⟩, ⟨a3, c3⟩, ⟨a4, c4⟩, a5, c5⟩ := q
 obtain ⟨e1, e2⟩ := hh
 subst e1 e2
 refine gENTO (vs := [_, _]) Tryz.func215 (fun S0 => ?_)
 repeat' first | (refine idR9 3 ?_; refine gRH2 (k := fun b9 c9 => ?_)) | (refine idJN 2 ?_; refine gJN 2 (fun z : Int => [(5, .v (vi z))]) [cuA d p, slA 3 intL (.slice a1 h.rules.seats.length c1) h.rules.seats, slA 91 partyL (.slice a2 h.parties.length c2) h.parties, slA 70 (cabinLx 159 199 166) (.slice a3 h.cabins.length c3) h.cabins, slA 3 intL (.slice a4 h.todo.length c4) h.todo, slA 3 intL (.slice a5 h.jobs.length c5) h.jobs] (fun _ => True) (by exact plS PU (plS PU (plS PU (plS PU (plS PU (plS PU pl0)))))) ?_ (fun z _ => ?_)) | (refine idJB ?_; refine gJB [5] (hp := plS PU (plS PU (plS PU (plS PU (plS PU (plS PU pl0)))))) (h := trivial)) | (refine idJN 6 ?_; refine gJN 6 (fun b : Bool => [(37, .v (.bool b))]) [] (fun _ => True) pl0 ?_ (fun b _ => ?_)) | (refine idJB ?_; refine gJB [37] (hp := pl0) (h := trivial)) | refine STD ?_ | refine ST ?_ | refine ST2 ?_ | refine ST3 ?_ | intro _ | apply And.intro
 all_goals first | trivial | trace_state
end SX
end Go.Proofs.YtejojcoaohlfbaaGreat
