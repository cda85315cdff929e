/- Who goes ahead of whom; who fits; who was passed over: the program's side. -/
import Derived.Test.YtapbooddmdkgjaaGreatJB1
import Derived.Test.YtapbooddmdkgjaaGreatBN
import Derived.Test.YtapbooddmdkgjaaGreatSx9
namespace Go.Proofs.YtapbooddmdkgjaaGreat
namespace SX
open Go Go.RowKit
set_option linter.unusedVariables false
set_option linter.unusedSimpArgs false
set_option maxRecDepth 10000
set_option maxHeartbeats 1000000
attribute [local irreducible] CD DN OPL AT QL QT CND RETG BKP HL HT HO slA slHo slP ptC pull pulls
instance iBefore_c : HC 199 (∀ (W : World) (cs : List Value) (r : Rules) (x y : Party) (now : Int), RulesR W cs r →Sp W [] 199 #[.agg cs.toArray, .agg (partyE x).toArray, .agg (partyE y).toArray, vi now] (RV (.bool (beforeB r x y now)))) := by
 refine ⟨fun W cs r x y now hr => gENT (vs := [_, _, _, _]) Tryz.func199 ?_⟩
 obtain ⟨a, c, rfl, hc, h⟩ := id hr
 repeat' first | refine ST ?_ | intro _ | apply And.intro
 all_goals first | (simp_all [beforeB]; done) | grind [beforeB] | trace_state
instance iEligible_c : HC 100 (∀ (W : World) (cs : List Value) (h : House) (p : Party) (cabin : Int), HsR W cs h → 0 ≤ cabin → cabin < (h.cabins.length : Int) →Sp W [] 100 #[.agg cs.toArray, .agg (partyE p).toArray, vi cabin] (RV (.bool (fitsB h cabin p)))) := by
 refine ⟨fun W cs h p cabin hh hc0 hc1 => ?_⟩
 have hh1 := hh; obtain ⟨a1, c1, a2, c2, a3, c3, a4, c4, a5, c5, rfl, h1, h2, h3, h4, h5, h6, h7, h8, h9, h10⟩ := hh
 have hk : cabin.toNat < h.cabins.length := by omega
 have hx := freeAt_of (List.getElem?_eq_getElem hk)
 refine gENT (vs := [_, _, _]) Tryz.func100 ?_
 repeat' first | refine ST ?_ | intro _ | apply And.intro
 all_goals first | (simp_all [fitsB]; done) | grind [fitsB] | trace_state
instance iPassed_c : HC 101 (∀ (W : World) (cs : List Value) (h : House) (cabin id : Int), HsR W cs h → HouseSz h →Sp W [] 101 #[.agg cs.toArray, vi cabin, vi id] (RO 3 intL (passed h cabin id))) := by
 refine ⟨fun W cs h cabin id hh hsz => ?_⟩
 have hh1 := hh; obtain ⟨a1, c1, a2, c2, a3, c3, a4, c4, a5, c5, rfl, h1, h2, h3, h4, h5, h6, h7, h8, h9, h10⟩ := hh
 have hp9 := hsz.2.1; have hal := atId_lt h.parties id
 refine gENT (vs := [_, _, _]) Tryz.func101 (gNILN 3 intL ?_)
 by_cases hb : hasCab h cabin = true
 · obtain ⟨hc0, hc1⟩ := hasCab_in hb
   by_cases hat : atId h.parties id < 0
   · repeat' first | refine ST ?_ | intro _ | apply And.intro
     all_goals first | exact absurd (‹hasCab h cabin = false›.symm.trans hb) (by decide) | (rw [passed_neg hat]; done) | (exfalso; omega) | trace_state
   · have hq := List.getElem?_eq_getElem (show (atId h.parties id).toNat < h.parties.length by omega)
     repeat' first | refine ST ?_ | intro _ | apply And.intro
     all_goals first | exact absurd (‹hasCab h cabin = false›.symm.trans hb) (by decide) | (exfalso; omega) | (rw [passed_ne hq ‹_›]; done) | skip
     refine gFORO 35 h.parties.length 8 (fun _ : Unit => []) (fun k _ xs => xs.length ≤ k ∧ passed h cabin id = xs ++ passGo h cabin (h.parties[(atId h.parties id).toNat]'(by omega)) (h.parties.drop k)) () (h0 := ⟨by simp, by rw [passed_of hb hat hq ‹_›]; rfl⟩) (body := fun k _ a c9 xs hk ⟨hl, hv⟩ => ?_)
     repeat' first | refine ST ?_ | intro _ | apply And.intro
     all_goals first
      | exact LEN
      | (exfalso; omega)
      | (rw [hv, List.drop_eq_getElem_cons (by omega), passGo, if_pos (by simp [*])]; simp; done)
      | (rw [hv, List.drop_eq_getElem_cons (by omega), passGo, if_neg (by simp [*])]; done)
      | (rw [hv, List.drop_eq_nil_of_le (by omega)]; simp [passGo]; done)
      | trace_state
 · repeat' first | refine ST ?_ | intro _ | apply And.intro
   all_goals first | exact absurd ‹hasCab h cabin = true› hb | (rw [passed_no (by simpa using hb)]; done) | trace_state
end SX
end Go.Proofs.YtapbooddmdkgjaaGreat
