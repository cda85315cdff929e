/- The law of a chance: both sides agree. -/
import Derived.Test.YthnbaikmbgaddaaGreatBN
import Derived.Test.YthnbaikmbgaddaaGreatK1
import Derived.Test.YthnbaikmbgaddaaGreatK2
namespace Go.Proofs.YthnbaikmbgaddaaGreat
namespace SX
open Go Go.RowKit
set_option linter.unusedVariables false
set_option linter.unusedSimpArgs false
set_option maxRecDepth 10000
set_option maxHeartbeats 1000000
attribute [local irreducible] CD DN OPL AT QL QT CND RETG BKP HL HT HO slA slHo slP ptC pull pulls
abbrev HsL := HouseR 256 276 290
instance hSzHouse_c : HC 30 (∀ (W : World) (cs : List Value) (h : House) (left : Int), HsL W cs h → left ≤ 1048576 → 0 ≤ left →Sp W [] 30 #[.agg cs.toArray, vi left] (⟨{x : Int // 0 ≤ x → HouseSz h}, fun q => vi q.1, fun _ => []⟩)) := by
 refine ⟨fun W cs h left hh hl hl0 => ?_⟩
 obtain ⟨a1, c1, a2, c2, a3, c3, a4, c4, a5, c5, rfl, h1, h2, h3, h4, h5, h6, h7, h8, h9, h10⟩ := hh
 exact szHouse_c W h a1 c1 h6 a2 c2 h7 a3 c3 h8 a4 c4 h9 a5 c5 h10 left hl hl0
instance hToHouse_c : HC 32 (∀ (W : World) (cs : List Value) (h : House), HsL W cs h → HouseSz h →Sp W [] 32 #[.agg cs.toArray] (RHs h)) := by
 refine ⟨fun W cs h hh hs => ?_⟩
 obtain ⟨a1, c1, a2, c2, a3, c3, a4, c4, a5, c5, rfl, h1, h2, h3, h4, h5, h6, h7, h8, h9, h10⟩ := hh
 exact toHouse_c W h a1 c1 h6 a2 c2 h7 a3 c3 h8 a4 c4 h9 a5 c5 h10 hs
instance hEqHouse_c : HC 34 (∀ (W : World) (cs : List Value) (h : House) (ds : List Value) (g : House), HsR W cs h → HsR W ds g →Sp W [] 34 #[.agg cs.toArray, .agg ds.toArray] (RV (.bool (eqHouse h g)))) := by
 refine ⟨fun W cs h ds g hh hg => ?_⟩
 obtain ⟨a1, c1, a2, c2, a3, c3, a4, c4, a5, c5, rfl, h1, h2, h3, h4, h5, h6, h7, h8, h9, h10⟩ := hh
 obtain ⟨b1, d1, b2, d2, b3, d3, b4, d4, b5, d5, rfl, g1, g2, g3, g4, g5, g6, g7, g8, g9, g10⟩ := hg
 exact eqHouse_c W h a1 c1 h6 a2 c2 h7 a3 c3 h8 a4 c4 h9 a5 c5 h10 g b1 d1 g6 b2 d2 g7 b3 d3 g8 b4 d4 g9 b5 d5 g10
instance exLawChance_c : HC 5 (∀ (W : World) (cs : List Value) (h : House) (id : Int), HsL W cs h →Sp W [] 5 #[.agg cs.toArray, vi id] (RV (.bool true))) := by
 refine ⟨fun W cs h id hh => ?_⟩
 have hh1 := hh; obtain ⟨a1, c1, a2, c2, a3, c3, a4, c4, a5, c5, rfl, h1, h2, h3, h4, h5, h6, h7, h8, h9, h10⟩ := hh
 refine gENT (vs := [_, _]) Tryz.func5 ?_
 by_cases hz : HouseSz h
 · repeat' first | refine ST ?_ | refine ST2 ?_ | intro _ | apply And.intro
   · rfl
   · exact absurd ((beq_self_eq_true (chanceB h id)).symm.trans ‹(chanceB h id == chanceB h id) = false›) (by decide)
   · refine hCV (hcon := by intro c w hw; exact c w _ h _ h (HouseR.own hw NT9 NT9 NT9 NT9 NT9) (HouseR.own hw NT9 NT9 NT9 NT9 NT9)) (k := ?_)
     repeat' first | refine ST ?_ | refine ST2 ?_ | intro _ | apply And.intro
     all_goals first | rfl | exact absurd ((eqHouse_refl h).symm.trans ‹eqHouse h h = false›) (by decide)
 · repeat' first | exact absurd (‹{x : Int // 0 ≤ x → HouseSz h}›.2 (by omega)) hz | refine ST ?_ | intro _ | apply And.intro
   all_goals rfl
theorem exChance_c (W : World) (h : House) (a1 : Option Addr) (c1 : Nat) (h6 : Rd intL W a1 h.rules.seats) (h1 : h.rules.seats.length ≤ c1) (a2 : Option Addr) (c2 : Nat) (h7 : Rd partyL W a2 h.parties) (h2 : h.parties.length ≤ c2) (a3 : Option Addr) (c3 : Nat) (h8 : Rd (cabinLx 256 276 290) W a3 h.cabins) (h3 : h.cabins.length ≤ c3) (a4 : Option Addr) (c4 : Nat) (h9 : Rd intL W a4 h.todo) (h4 : h.todo.length ≤ c4) (a5 : Option Addr) (c5 : Nat) (h10 : Rd intL W a5 h.jobs) (h5 : h.jobs.length ≤ c5) (id : Int) :
  Spec Tryz.prog W [] 5 #[.agg #[.slice a1 h.rules.seats.length c1, vi h.rules.tiers, vi h.rules.room, vi h.rules.size, vi h.rules.period, vi h.rules.window, vi h.rules.rest, vi h.rules.tries, vi h.rules.crew, vi h.now, vi h.turn, .slice a2 h.parties.length c2, .slice a3 h.cabins.length c3, .slice a4 h.todo.length c4, .slice a5 h.jobs.length c5], vi id] (RV (.bool true)) :=
 exLawChance_c.pf W _ h id ⟨a1, c1, a2, c2, a3, c3, a4, c4, a5, c5, rfl, h1, h2, h3, h4, h5, h6, h7, h8, h9, h10⟩
end SX
end Go.Proofs.YthnbaikmbgaddaaGreat
