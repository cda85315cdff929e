/- The law: what requests do not keep; both sides agree. -/
import Derived.Test.YtejojcoaohlfbaaGreatGG
import Derived.Test.YtejojcoaohlfbaaGreatGH
import Derived.Test.YtejojcoaohlfbaaGreatGK
namespace Go.Proofs.YtejojcoaohlfbaaGreat
namespace SX
open Go Go.RowKit
set_option linter.unusedVariables false
set_option linter.unusedSimpArgs false
set_option maxRecDepth 10000
set_option maxHeartbeats 1000000
attribute [local irreducible] CD DN OPL AT QL QT CND RETG BKP HL HT HO slA slHo slP ptC pull pulls
set_option maxHeartbeats 4000000
theorem NTU {C : List Ass} {A : Ass} {j : Nat} (h : C[j]? = some A := by (repeat (first | exact nt0 | apply ntS)); done) : C[j]? = some A := h
theorem unkept_len (h : House) (l : List Req) : (unkept h l).length ≤ l.length := by
 unfold unkept; split
 · simp
 · rw [upto_len]; exact Nat.le_refl _
instance exLawUnkept_c : HC 4 (∀ (W : World) (cs : List Value) (h : House) (l : List Req) (v : Value), HsL W cs h → Rs reqL W v l →Sp W [] 4 #[.agg cs.toArray, v] (RV (.bool true))) := by
 refine ⟨fun W cs h l v hh hv0 => ?_⟩
 have hh1 := hh; obtain ⟨a1, c1, a2, c2, a3, c3, a4, c4, a5, c5, rfl, h1, h2, h3, h4, h5, h6, h7, h8, h9, h10⟩ := hh
 obtain ⟨a9, c9, rfl, hc9, hr9⟩ := hv0
 have hv1 : Rs reqL W (.slice a9 l.length c9) l := ⟨a9, c9, rfl, hc9, hr9⟩
 have hs7 : ∀ (x : {x : Int // 0 ≤ x → x ≤ 1048576 ∧ HouseSz h}), ¬ x.1 < 0 → x.1 ≤ 1048576 := fun x h0 => (x.2 (by omega)).1
 have hs8 : ∀ (x : {x : Int // 0 ≤ x → x ≤ 1048576 ∧ HouseSz h}), ¬ x.1 < 0 → 0 ≤ x.1 := fun x h0 => by omega
 refine gENT (vs := [_, _]) Tryz.func4 ?_
 by_cases hz : HouseSz h
 · by_cases hl : l.length ≤ 1048576
   · have hu := unkept_len h l
     have hu2 : (unkept h l).length ≤ 1048576 := by omega
     have m1 := markHouse_rng hz
     have m2 := markReqs_nn hl m1.1 (by omega)
     have m3 := markI_nn hu2
     have m4 : 0 ≤ (markHouse h 1).2 := m1.1
     have q1 := eqInts_refl (unkept h l)
     have q3 := eqHouse_refl h
     have q4 := eqL_refl eqReq_refl l
     repeat' first | exact absurd (q1.symm.trans ‹eqInts _ _ = false›) (by decide) | exact absurd (q3.symm.trans ‹eqHouse _ _ = false›) (by decide) | exact absurd (q4.symm.trans ‹eqL eqReq _ _ = false›) (by decide) | (refine idAT ?_; refine aCa ?_; refine aCX (f := 21) (hcon := by intro c w hw; exact c w _ h l _ (HouseR.own hw NTU NTU NTU NTU NTU) hz (Rs.own hw NTU) hl) (hp := pl0) (k := fun x9 => ?_)) | (refine idAT ?_; refine aCa ?_; refine aCV (f := 22) (hcon := by intro c w hw; exact c w _ _ _ _ (Rs.ownN hw NTU) (Rs.ownN hw NTU)) (k := ?_)) | (refine idQT ?_; refine qCa ?_; refine qCV (f := 22) (hcon := by intro c w hw; exact c w _ _ _ _ (Rs.ownN hw NTU) (Rs.ownN hw NTU)) (k := ?_)) | (refine idAT ?_; refine aCa ?_; refine aCV (f := 26) (hcon := by intro c w hw; exact c w _ (unkept h l) _ _ (Rs.ownN hw NTU) rfl) (k := ?_)) | refine ST ?_ | refine ST2 ?_ | intro _ | apply And.intro
     all_goals first | rfl | (exfalso; omega) | trace_state
   · repeat' first | exact absurd (‹{x : Int // 0 ≤ x → l.length ≤ 1048576}›.2 (by omega)) hl | refine ST ?_ | refine ST2 ?_ | intro _ | apply And.intro
     all_goals rfl
 · repeat' first | exact absurd (‹{x : Int // 0 ≤ x → x ≤ 1048576 ∧ HouseSz h}›.2 (by omega)).2 hz | refine ST ?_ | intro _ | apply And.intro
   all_goals rfl
theorem exUnkept_c (W : World) (h : House) (a1 : Option Addr) (c1 : Nat) (h6 : Rd intL W a1 h.rules.seats) (h1 : h.rules.seats.length ≤ c1) (a2 : Option Addr) (c2 : Nat) (h7 : Rd partyL W a2 h.parties) (h2 : h.parties.length ≤ c2) (a3 : Option Addr) (c3 : Nat) (h8 : Rd (cabinLx 271 292 301) W a3 h.cabins) (h3 : h.cabins.length ≤ c3) (a4 : Option Addr) (c4 : Nat) (h9 : Rd intL W a4 h.todo) (h4 : h.todo.length ≤ c4) (a5 : Option Addr) (c5 : Nat) (h10 : Rd intL W a5 h.jobs) (h5 : h.jobs.length ≤ c5) (l : List Req) (a : Option Addr) (c : Nat) (hl : Rd reqL W a l) (hc : l.length ≤ c) :
 Spec Tryz.prog W [] 4 #[.agg #[.slice a1 h.rules.seats.length c1, vi h.rules.tiers, vi h.rules.room, vi h.rules.size, vi h.rules.period, vi h.rules.window, vi h.rules.rest, vi h.rules.tries, vi h.rules.crew, vi h.now, vi h.turn, .slice a2 h.parties.length c2, .slice a3 h.cabins.length c3, .slice a4 h.todo.length c4, .slice a5 h.jobs.length c5], .slice a l.length c] (RV (.bool true)) :=
 exLawUnkept_c.pf W _ h l _ ⟨a1, c1, a2, c2, a3, c3, a4, c4, a5, c5, rfl, h1, h2, h3, h4, h5, h6, h7, h8, h9, h10⟩ ⟨a, c, rfl, hc, hl⟩
end SX
end Go.Proofs.YtejojcoaohlfbaaGreat
