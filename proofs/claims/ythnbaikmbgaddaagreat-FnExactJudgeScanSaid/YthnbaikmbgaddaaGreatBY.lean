/- Texts of this claim, put together by program. -/
import Derived.Test.YthnbaikmbgaddaaGreatBT
import Derived.Test.YthnbaikmbgaddaaGreatK1
import Derived.Test.YthnbaikmbgaddaaGreatK2
import Derived.Test.YthnbaikmbgaddaaGreatBX
/- The law of a chance: both sides agree. -/
namespace Go.Proofs.YthnbaikmbgaddaaGreat
namespace SX
open Go Go.RowKit
set_option linter.unusedVariables false
set_option linter.unusedSimpArgs false
set_option maxRecDepth 10000
set_option maxHeartbeats 1000000
attribute [local irreducible] CD DN OPL AT QL QT CND RETG BKP HL HT HO slA slHo slP ptC pull pulls
abbrev HsL := HouseR 256 276 290
instance hSzHouse_c : HC 30 (∀ (W : World) (cs : List Value) (h : House) (left : Int), HsL W cs h → left ≤ 1048576 → 0 ≤ left →Sp W [] 30 #[.agg cs.toArray, vi left] (⟨{x : Int // 0 ≤ x → HouseSz h}, fun q => vi q.1, fun _ => []⟩)) := by
 refine ⟨fun W cs h left hh hl hl0 => ?_⟩
 obtain ⟨a1, c1, a2, c2, a3, c3, a4, c4, a5, c5, rfl, h1, h2, h3, h4, h5, h6, h7, h8, h9, h10⟩ := hh
 exact szHouse_c W h a1 c1 h6 a2 c2 h7 a3 c3 h8 a4 c4 h9 a5 c5 h10 left hl hl0
instance hToHouse_c : HC 32 (∀ (W : World) (cs : List Value) (h : House), HsL W cs h → HouseSz h →Sp W [] 32 #[.agg cs.toArray] (RHs h)) := by
 refine ⟨fun W cs h hh hs => ?_⟩
 obtain ⟨a1, c1, a2, c2, a3, c3, a4, c4, a5, c5, rfl, h1, h2, h3, h4, h5, h6, h7, h8, h9, h10⟩ := hh
 exact toHouse_c W h a1 c1 h6 a2 c2 h7 a3 c3 h8 a4 c4 h9 a5 c5 h10 hs
instance hEqHouse_c : HC 34 (∀ (W : World) (cs : List Value) (h : House) (ds : List Value) (g : House), HsR W cs h → HsR W ds g →Sp W [] 34 #[.agg cs.toArray, .agg ds.toArray] (RV (.bool (eqHouse h g)))) := by
 refine ⟨fun W cs h ds g hh hg => ?_⟩
 obtain ⟨a1, c1, a2, c2, a3, c3, a4, c4, a5, c5, rfl, h1, h2, h3, h4, h5, h6, h7, h8, h9, h10⟩ := hh
 obtain ⟨b1, d1, b2, d2, b3, d3, b4, d4, b5, d5, rfl, g1, g2, g3, g4, g5, g6, g7, g8, g9, g10⟩ := hg
 exact eqHouse_c W h a1 c1 h6 a2 c2 h7 a3 c3 h8 a4 c4 h9 a5 c5 h10 g b1 d1 g6 b2 d2 g7 b3 d3 g8 b4 d4 g9 b5 d5 g10
end SX
end Go.Proofs.YthnbaikmbgaddaaGreat
/- The law: a scan that is judged; both sides agree. -/
namespace Go.Proofs.YthnbaikmbgaddaaGreat
namespace SX
open Go Go.RowKit
set_option linter.unusedVariables false
set_option linter.unusedSimpArgs false
set_option maxRecDepth 10000
set_option maxHeartbeats 1000000
attribute [local irreducible] CD DN OPL AT QL QT CND RETG BKP HL HT HO slA slHo slP ptC pull pulls
theorem NTD {C : List Ass} {A : Ass} {j : Nat} (h : C[j]? = some A := by (repeat (first | exact nt0 | apply ntS)); done) : C[j]? = some A := h
instance hEqIntS_c : HC 46 (∀ (W : World) (a b : List Int) (v u : Value), Rs intL W v a → Rs intL W u b →Sp W [] 46 #[v, u] (RV (.bool (eqInts a b)))) := by
 refine ⟨fun W a b v u ⟨a1, c1, e1, hc1, hr1⟩ ⟨a2, c2, e2, hc2, hr2⟩ => ?_⟩
 subst e1 e2
 exact eqIntS_c W a a1 c1 hr1 b a2 c2 hr2
instance hToIntS_c : HC 45 (∀ (W : World) (l : List Int) (v : Value), Rs intL W v l → l.length ≤ 1048576 →Sp W [] 45 #[v] (RO 3 intL l)) := by
 refine ⟨fun W l v ⟨a1, c1, e1, hc1, hr1⟩ hl => ?_⟩
 subst e1
 exact toIntS_c W l a1 c1 hr1 hl
instance exLawJudgeScan_c : HC 8 (∀ (W : World) (cs : List Value) (h : House) (cabin : Int) (made : List Int) (v : Value), HsL W cs h → Rs intL W v made →Sp W [] 8 #[.agg cs.toArray, vi cabin, v] (RV (.bool true))) := by
 refine ⟨fun W cs h cabin made v hh ⟨am, cm, em, hcm, hrm⟩ => ?_⟩
 subst em; have hlm := hrm.len
 have hh1 := hh; obtain ⟨a1, c1, a2, c2, a3, c3, a4, c4, a5, c5, rfl, h1, h2, h3, h4, h5, h6, h7, h8, h9, h10⟩ := hh
 refine gENT (vs := [_, _, _]) Tryz.func8 ?_
 by_cases hm : (made.length : Int) > 1048576
 · repeat' first | refine ST ?_ | intro _ | apply And.intro
   all_goals first | rfl | (exfalso; omega) | trace_state
 have hm2 : made.length ≤ 1048576 := by omega
 by_cases hz : HouseSz h
 · have q2 := eqInts_refl made
   have q3 := eqHouse_refl h
   repeat' first | (refine idAT ?_; refine aCa ?_; refine aCV (f := 34) (hcon := by intro c w hw; exact c w _ _ _ _ (HouseR.own hw NTD NTD NTD NTD NTD) (HouseR.own hw NTD NTD NTD NTD NTD)) (k := ?_)) | (refine idAT ?_; refine aCa ?_; refine aCV (f := 46) (hcon := by intro c w hw; exact c w _ _ _ _ (Rs.ownN hw NTD) (Rs.ownN hw NTD)) (k := ?_)) | (refine idQT ?_; refine qCa ?_; refine qCV (f := 34) (hcon := by intro c w hw; exact c w _ _ _ _ (HouseR.own hw NTD NTD NTD NTD NTD) (HouseR.own hw NTD NTD NTD NTD NTD)) (k := ?_)) | (refine idQT ?_; refine qCa ?_; refine qCV (f := 46) (hcon := by intro c w hw; exact c w _ _ _ _ (Rs.ownN hw NTD) (Rs.ownN hw NTD)) (k := ?_)) | (refine idHO ?_; refine goC ?_; refine hCV (fn := 34) (hcon := by intro c w hw; exact c w _ _ _ _ (HouseR.own hw NTD NTD NTD NTD NTD) (HouseR.own hw NTD NTD NTD NTD NTD)) (k := ?_)) | (refine idHO ?_; refine goC ?_; refine hCV (fn := 46) (hcon := by intro c w hw; exact c w _ _ _ _ (Rs.ownN hw NTD) (Rs.ownN hw NTD)) (k := ?_)) | refine ST ?_ | refine ST2 ?_ | intro _ | apply And.intro
   all_goals first | rfl | (exfalso; omega) | exact absurd (q2.symm.trans ‹eqInts _ _ = false›) (by decide) | exact absurd (q3.symm.trans ‹eqHouse _ _ = false›) (by decide) | exact absurd ((beq_self_eq_true (judgeScan h cabin made)).symm.trans ‹(judgeScan h cabin made == judgeScan h cabin made) = false›) (by decide) | trace_state
 · repeat' first | exact absurd (‹{x : Int // 0 ≤ x → HouseSz h}›.2 (by omega)) hz | refine ST ?_ | intro _ | apply And.intro
   all_goals first | rfl | (exfalso; omega) | trace_state
theorem exJudgeScan_c (W : World) (h : House) (a1 : Option Addr) (c1 : Nat) (h6 : Rd intL W a1 h.rules.seats) (h1 : h.rules.seats.length ≤ c1) (a2 : Option Addr) (c2 : Nat) (h7 : Rd partyL W a2 h.parties) (h2 : h.parties.length ≤ c2) (a3 : Option Addr) (c3 : Nat) (h8 : Rd (cabinLx 256 276 290) W a3 h.cabins) (h3 : h.cabins.length ≤ c3) (a4 : Option Addr) (c4 : Nat) (h9 : Rd intL W a4 h.todo) (h4 : h.todo.length ≤ c4) (a5 : Option Addr) (c5 : Nat) (h10 : Rd intL W a5 h.jobs) (h5 : h.jobs.length ≤ c5) (cabin : Int) (made : List Int) (am : Option Addr) (cm : Nat) (hm : Rd intL W am made) (hcm : made.length ≤ cm) :
  Spec Tryz.prog W [] 8 #[.agg #[.slice a1 h.rules.seats.length c1, vi h.rules.tiers, vi h.rules.room, vi h.rules.size, vi h.rules.period, vi h.rules.window, vi h.rules.rest, vi h.rules.tries, vi h.rules.crew, vi h.now, vi h.turn, .slice a2 h.parties.length c2, .slice a3 h.cabins.length c3, .slice a4 h.todo.length c4, .slice a5 h.jobs.length c5], vi cabin, .slice am made.length cm] (RV (.bool true)) :=
 exLawJudgeScan_c.pf W _ h cabin made _ ⟨a1, c1, a2, c2, a3, c3, a4, c4, a5, c5, rfl, h1, h2, h3, h4, h5, h6, h7, h8, h9, h10⟩ ⟨am, cm, rfl, hcm, hm⟩
end SX
end Go.Proofs.YthnbaikmbgaddaaGreat
