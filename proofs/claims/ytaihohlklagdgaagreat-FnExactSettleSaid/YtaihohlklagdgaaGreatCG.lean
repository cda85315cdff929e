/- Texts of this claim, put together by program. -/
import Derived.Test.YtaihohlklagdgaaGreatCD
import Derived.Test.YtaihohlklagdgaaGreatDB
import Derived.Test.YtaihohlklagdgaaGreatDD
import Derived.Test.YtaihohlklagdgaaGreatBO
import Derived.Test.YtaihohlklagdgaaGreatBU
import Derived.Test.YtaihohlklagdgaaGreatK3
/- Rounds; a house that settles. -/
namespace Go.Proofs.YtaihohlklagdgaaGreat
namespace SX
open Go Go.RowKit
set_option linter.unusedVariables false
set_option linter.unusedSimpArgs false
set_option maxRecDepth 10000
set_option maxHeartbeats 1000000
attribute [local irreducible] CD DN OPL AT QL QT CND RETG BKP HL HT HO slA slHo slP ptC pull pulls
instance sRound_c : HC 17 (∀ (W : World) (cs : List Value) (h : House), HsR W cs h → HouseSz h →Sp W [] 17 #[.agg cs.toArray] (RT2 (RHs (roundM h)) (RV (vi (verdict h ⟨6, 0, 0, 0, 0, 0⟩))))) := by
 refine ⟨fun W cs h hh hsz => ?_⟩
 have hh1 := hh; obtain ⟨a1, c1, a2, c2, a3, c3, a4, c4, a5, c5, rfl, h1, h2, h3, h4, h5, h6, h7, h8, h9, h10⟩ := hh
 refine gENT (vs := [_]) Tryz.func17 ?_
 by_cases hv : verdict h ⟨6, 0, 0, 0, 0, 0⟩ = 0
 · obtain ⟨p1, p2, p3⟩ := tick_facts hv
   have hs2 := (do_hp (q := ⟨6, 0, 0, 0, 0, 0⟩) p1).sz
   have hr : roundM h = drained (doM h ⟨6, 0, 0, 0, 0, 0⟩) := by rw [roundM, if_pos hv]
   rw [hr]
   repeat' first | refine ST ?_ | intro _ | apply And.intro
   all_goals first | exact absurd hv ‹verdict h _ ≠ 0› | exact hv.symm | rfl | trace_state
 · have hr : roundM h = h := by rw [roundM, if_neg hv]
   have hd : doM h ⟨6, 0, 0, 0, 0, 0⟩ = h := by rw [doM, if_neg hv]
   rw [hr]
   repeat' first | refine ST ?_ | intro _ | apply And.intro
   all_goals first | exact absurd ‹_› hv | exact hd | rfl | trace_state
instance iRound_c : HC 18 (∀ (W : World) (cs : List Value) (h : House), HsR W cs h → HouseSz h →Sp W [] 18 #[.agg cs.toArray] (RT2 (RHs (roundM h)) (RV (vi (verdict h ⟨6, 0, 0, 0, 0, 0⟩))))) := by
 refine ⟨fun W cs h hh hsz => ?_⟩
 have hh1 := hh; obtain ⟨a1, c1, a2, c2, a3, c3, a4, c4, a5, c5, rfl, h1, h2, h3, h4, h5, h6, h7, h8, h9, h10⟩ := hh
 refine gENT (vs := [_]) Tryz.func18 ?_
 by_cases hv : verdict h ⟨6, 0, 0, 0, 0, 0⟩ = 0
 · obtain ⟨p1, p2, p3⟩ := tick_facts hv
   have hs2 := (do_hp (q := ⟨6, 0, 0, 0, 0, 0⟩) p1).sz
   have hr : roundM h = drained (doM h ⟨6, 0, 0, 0, 0, 0⟩) := by rw [roundM, if_pos hv]
   rw [hr]
   repeat' first | refine ST ?_ | intro _ | apply And.intro
   all_goals first | exact absurd hv ‹verdict h _ ≠ 0› | exact hv.symm | rfl | trace_state
 · have hr : roundM h = h := by rw [roundM, if_neg hv]
   have hd : doM h ⟨6, 0, 0, 0, 0, 0⟩ = h := by rw [doM, if_neg hv]
   rw [hr]
   repeat' first | refine ST ?_ | intro _ | apply And.intro
   all_goals first | exact absurd ‹_› hv | exact hd | rfl | trace_state
end SX
end Go.Proofs.YtaihohlklagdgaaGreat
/- The law: a round; both sides agree. -/
namespace Go.Proofs.YtaihohlklagdgaaGreat
namespace SX
open Go Go.RowKit
set_option linter.unusedVariables false
set_option linter.unusedSimpArgs false
set_option maxRecDepth 10000
set_option maxHeartbeats 1000000
attribute [local irreducible] CD DN OPL AT QL QT CND RETG BKP HL HT HO slA slHo slP ptC pull pulls
theorem NTD {C : List Ass} {A : Ass} {j : Nat} (h : C[j]? = some A := by (repeat (first | exact nt0 | apply ntS)); done) : C[j]? = some A := h
instance hMarkHouse_c : HC 15 (∀ (W : World) (x : House) (a1 : Option Addr) (n1 c1 : Nat) (a2 : Option Addr) (n2 c2 : Nat) (a3 : Option Addr) (n3 c3 : Nat) (a4 : Option Addr) (n4 c4 : Nat) (a5 : Option Addr) (n5 c5 : Nat) (z : Int),Sp W [slA 3 intL (.slice a1 n1 c1) x.rules.seats, slA 105 partyL (.slice a2 n2 c2) x.parties, slA 119 (cabinLx 196 189 174) (.slice a3 n3 c3) x.cabins, slA 3 intL (.slice a4 n4 c4) x.todo, slA 3 intL (.slice a5 n5 c5) x.jobs] 15 #[.agg (hD x a1 n1 c1 a2 n2 c2 a3 n3 c3 a4 n4 c4 a5 n5 c5).toArray, vi z] (⟨Unit, fun _ => vi (markHouse x z).2, fun _ => [slA 3 intL (.slice a1 n1 c1) (markHouse x z).1.rules.seats, slA 105 partyL (.slice a2 n2 c2) (markHouse x z).1.parties, slA 119 (cabinLx 196 189 174) (.slice a3 n3 c3) (markHouse x z).1.cabins, slA 3 intL (.slice a4 n4 c4) (markHouse x z).1.todo, slA 3 intL (.slice a5 n5 c5) (markHouse x z).1.jobs]⟩)) := by
 exact ⟨fun W x a1 n1 c1 a2 n2 c2 a3 n3 c3 a4 n4 c4 a5 n5 c5 z => markHouse_c W x a1 n1 c1 a2 n2 c2 a3 n3 c3 a4 n4 c4 a5 n5 c5 z⟩
instance exLawRound_c : HC 4 (∀ (W : World) (cs : List Value) (h : House), HsL W cs h →Sp W [] 4 #[.agg cs.toArray] (RV (.bool true))) := by
 refine ⟨fun W cs h hh => ?_⟩
 have hh1 := hh; obtain ⟨a1, c1, a2, c2, a3, c3, a4, c4, a5, c5, rfl, h1, h2, h3, h4, h5, h6, h7, h8, h9, h10⟩ := hh
 refine gENT (vs := [_]) Tryz.func4 ?_
 by_cases hz : HouseSz h
 · have z1 : HouseSz (roundM h) := by
    by_cases hv : verdict h ⟨6, 0, 0, 0, 0, 0⟩ = 0
    · have hr : roundM h = drained (doM h ⟨6, 0, 0, 0, 0, 0⟩) := by rw [roundM, if_pos hv]
      rw [hr]
      exact (drained_hp (do_hp (tick_facts hv).1)).sz
    · have hr : roundM h = h := by rw [roundM, if_neg hv]
      rw [hr]; exact hz
   have m1 := (markHouse_rng hz).1
   have m2 := (markHouse_rng z1).1
   have q1 := eqHouse_refl (roundM h)
   have q3 := eqHouse_refl h
   repeat' first | (refine idAT ?_; refine aCa ?_; refine aCX (f := 18) (hcon := by intro c w hw; exact c w _ h (HouseR.own hw NTD NTD NTD NTD NTD) hz) (hp := pl0) (k := fun x9 => ?_)) | (refine idAT ?_; refine aCa ?_; refine aCV (f := 14) (hcon := by intro c w hw; exact c w _ _ _ _ (HouseR.own hw NTD NTD NTD NTD NTD) (HouseR.own hw NTD NTD NTD NTD NTD)) (k := ?_)) | (refine idAT ?_; refine aCa ?_; refine aCV (f := 21) (hcon := by intro c w hw; exact c w _ _ _ _ (Rs.ownN hw NTD) (Rs.ownN hw NTD)) (k := ?_)) | (refine idQT ?_; refine qCa ?_; refine qCV (f := 14) (hcon := by intro c w hw; exact c w _ _ _ _ (HouseR.own hw NTD NTD NTD NTD NTD) (HouseR.own hw NTD NTD NTD NTD NTD)) (k := ?_)) | (refine idQT ?_; refine qCa ?_; refine qCV (f := 21) (hcon := by intro c w hw; exact c w _ _ _ _ (Rs.ownN hw NTD) (Rs.ownN hw NTD)) (k := ?_)) | (refine idHO ?_; refine goC ?_; refine hCV (fn := 14) (hcon := by intro c w hw; exact c w _ _ _ _ (HouseR.own hw NTD NTD NTD NTD NTD) (HouseR.own hw NTD NTD NTD NTD NTD)) (k := ?_)) | (refine idHO ?_; refine goC ?_; refine hCV (fn := 21) (hcon := by intro c w hw; exact c w _ _ _ _ (Rs.ownN hw NTD) (Rs.ownN hw NTD)) (k := ?_)) | (refine idAT ?_; refine aCa ?_; refine aCV (f := 16) (hcon := by intro c w hw; exact c w _ _ (roundM h) (HouseR.own hw NTD NTD NTD NTD NTD) rfl z1) (k := ?_)) | refine ST ?_ | refine ST2 ?_ | intro _ | apply And.intro
   all_goals first | rfl | exact absurd (q1.symm.trans ‹eqHouse _ _ = false›) (by decide) | exact absurd (q3.symm.trans ‹eqHouse _ _ = false›) (by decide) | (exfalso; omega) | exact absurd rfl ‹_› | (exfalso; simp_all; done) | trace_state
 · repeat' first | exact absurd (‹{x : Int // 0 ≤ x → HouseSz h}›.2 (by omega)) hz | refine ST ?_ | intro _ | apply And.intro
   all_goals rfl
theorem exRound_c (W : World) (h : House) (a1 : Option Addr) (c1 : Nat) (h6 : Rd intL W a1 h.rules.seats) (h1 : h.rules.seats.length ≤ c1) (a2 : Option Addr) (c2 : Nat) (h7 : Rd partyL W a2 h.parties) (h2 : h.parties.length ≤ c2) (a3 : Option Addr) (c3 : Nat) (h8 : Rd (cabinLx 235 272 284) W a3 h.cabins) (h3 : h.cabins.length ≤ c3) (a4 : Option Addr) (c4 : Nat) (h9 : Rd intL W a4 h.todo) (h4 : h.todo.length ≤ c4) (a5 : Option Addr) (c5 : Nat) (h10 : Rd intL W a5 h.jobs) (h5 : h.jobs.length ≤ c5) :
  Spec Tryz.prog W [] 4 #[.agg #[.slice a1 h.rules.seats.length c1, vi h.rules.tiers, vi h.rules.room, vi h.rules.size, vi h.rules.period, vi h.rules.window, vi h.rules.rest, vi h.rules.tries, vi h.rules.crew, vi h.now, vi h.turn, .slice a2 h.parties.length c2, .slice a3 h.cabins.length c3, .slice a4 h.todo.length c4, .slice a5 h.jobs.length c5]] (RV (.bool true)) :=
 exLawRound_c.pf W _ h ⟨a1, c1, a2, c2, a3, c3, a4, c4, a5, c5, rfl, h1, h2, h3, h4, h5, h6, h7, h8, h9, h10⟩
end SX
end Go.Proofs.YtaihohlklagdgaaGreat
