/- The law: a house that settles; both sides agree. -/
import Derived.Test.YtaihohlklagdgaaGreatDE
import Derived.Test.YtaihohlklagdgaaGreatDF
import Derived.Test.YtaihohlklagdgaaGreatBO
import Derived.Test.YtaihohlklagdgaaGreatBU
import Derived.Test.YtaihohlklagdgaaGreatK3
namespace Go.Proofs.YtaihohlklagdgaaGreat
namespace SX
open Go Go.RowKit
set_option linter.unusedVariables false
set_option linter.unusedSimpArgs false
set_option maxRecDepth 10000
set_option maxHeartbeats 1000000
attribute [local irreducible] CD DN OPL AT QL QT CND RETG BKP HL HT HO slA slHo slP ptC pull pulls
theorem NTE {C : List Ass} {A : Ass} {j : Nat} (h : C[j]? = some A := by (repeat (first | exact nt0 | apply ntS)); done) : C[j]? = some A := h
instance hMarkIntS_c : HC 22 (∀ (W : World) (l : List Int) (a : Option Addr) (n c : Nat) (z : Int),Sp W [slA 3 intL (.slice a n c) l] 22 #[.slice a n c, vi z] (⟨Unit, fun _ => vi (markL markI l z).2, fun _ => [slA 3 intL (.slice a n c) (markL markI l z).1]⟩)) := by
 exact ⟨fun W l a n c z => markIntS_c W l a n c z⟩
instance hMarkHouseS_c : HC 15 (∀ (W : World) (x : House) (a1 : Option Addr) (n1 c1 : Nat) (a2 : Option Addr) (n2 c2 : Nat) (a3 : Option Addr) (n3 c3 : Nat) (a4 : Option Addr) (n4 c4 : Nat) (a5 : Option Addr) (n5 c5 : Nat) (z : Int),Sp W [slA 3 intL (.slice a1 n1 c1) x.rules.seats, slA 105 partyL (.slice a2 n2 c2) x.parties, slA 119 (cabinLx 196 189 174) (.slice a3 n3 c3) x.cabins, slA 3 intL (.slice a4 n4 c4) x.todo, slA 3 intL (.slice a5 n5 c5) x.jobs] 15 #[.agg (hD x a1 n1 c1 a2 n2 c2 a3 n3 c3 a4 n4 c4 a5 n5 c5).toArray, vi z] (⟨Unit, fun _ => vi (markHouse x z).2, fun _ => [slA 3 intL (.slice a1 n1 c1) (markHouse x z).1.rules.seats, slA 105 partyL (.slice a2 n2 c2) (markHouse x z).1.parties, slA 119 (cabinLx 196 189 174) (.slice a3 n3 c3) (markHouse x z).1.cabins, slA 3 intL (.slice a4 n4 c4) (markHouse x z).1.todo, slA 3 intL (.slice a5 n5 c5) (markHouse x z).1.jobs]⟩)) := by
 exact ⟨fun W x a1 n1 c1 a2 n2 c2 a3 n3 c3 a4 n4 c4 a5 n5 c5 z => markHouse_c W x a1 n1 c1 a2 n2 c2 a3 n3 c3 a4 n4 c4 a5 n5 c5 z⟩
theorem accAll_40 {h : House} (hp : HRep h) : (accAll h).2.length ≤ 40 := by
  have hac : accAll h = (accGo h.now h.parties h, accIds h.now h.parties) := if_pos hp.eq
  rw [hac]
  exact Nat.le_trans (accIds_len _ _) hp.len
theorem settleGo_ln : ∀ (n : Nat) (h : House) (l : List Int), HRep h → (settleGo n h l).2.length ≤ l.length + n * 40
  | 0, h, l, _ => by simp [settleGo]
  | n + 1, h, l, hp => by
    by_cases hi : (accAll (drained h)).2 = []
    · rw [settle_stop hi]; dsimp only; omega
    · rw [settle_go hi]
      have h1 := settleGo_ln n (accAll (drained h)).1 (l ++ (accAll (drained h)).2) (accAll_hp (drained_hp hp))
      have h2 := accAll_40 (drained_hp hp)
      rw [List.length_append] at h1
      omega
theorem settleM_sz {h : House} (most : Int) (hs : HouseSz h) : HouseSz (settleM h most).1 ∧ (settleM h most).2.length ≤ 1048576 := by
  by_cases hok : houseOk h = true
  · have hR := houseP_iff.1 (houseP_of hok)
    have hst : settleM h most = settleGo (settleN most) h [] := if_pos hok
    have h1 := settleGo_ln (settleN most) h [] hR
    have h2 : settleN most ≤ 20 := by unfold settleN; omega
    rw [hst]
    refine ⟨(settleGo_hp hR).sz, ?_⟩
    simp only [List.length_nil] at h1
    omega
  · have hst : settleM h most = (h, []) := if_neg hok
    rw [hst]
    exact ⟨hs, by simp⟩
instance exLawSettle_c : HC 5 (∀ (W : World) (cs : List Value) (h : House) (most : Int), HsL W cs h →Sp W [] 5 #[.agg cs.toArray, vi most] (RV (.bool true))) := by
 refine ⟨fun W cs h most hh => ?_⟩
 have hh1 := hh; obtain ⟨a1, c1, a2, c2, a3, c3, a4, c4, a5, c5, rfl, h1, h2, h3, h4, h5, h6, h7, h8, h9, h10⟩ := hh
 refine gENT (vs := [_, _]) Tryz.func5 ?_
 by_cases hz : HouseSz h
 · obtain ⟨z1, z2⟩ := settleM_sz most hz
   have m1 := (markHouse_rng hz).1
   have m2 := (markHouse_rng z1).1
   have m3 := markTail_nn z1 z2
   have q1 := eqHouse_refl (settleM h most).1
   have q2 := eqInts_refl (settleM h most).2
   have q3 := eqHouse_refl h
   repeat' first | (refine idAT ?_; refine aCa ?_; refine aCX (f := 20) (hcon := by intro c w hw; exact c w _ h most (HouseR.own hw NTE NTE NTE NTE NTE) hz) (hp := pl0) (k := fun x9 => ?_)) | (refine idAT ?_; refine aCa ?_; refine aCV (f := 14) (hcon := by intro c w hw; exact c w _ _ _ _ (HouseR.own hw NTE NTE NTE NTE NTE) (HouseR.own hw NTE NTE NTE NTE NTE)) (k := ?_)) | (refine idAT ?_; refine aCa ?_; refine aCV (f := 21) (hcon := by intro c w hw; exact c w _ _ _ _ (Rs.ownN hw NTE) (Rs.ownN hw NTE)) (k := ?_)) | (refine idQT ?_; refine qCa ?_; refine qCV (f := 14) (hcon := by intro c w hw; exact c w _ _ _ _ (HouseR.own hw NTE NTE NTE NTE NTE) (HouseR.own hw NTE NTE NTE NTE NTE)) (k := ?_)) | (refine idQT ?_; refine qCa ?_; refine qCV (f := 21) (hcon := by intro c w hw; exact c w _ _ _ _ (Rs.ownN hw NTE) (Rs.ownN hw NTE)) (k := ?_)) | (refine idHO ?_; refine goC ?_; refine hCV (fn := 14) (hcon := by intro c w hw; exact c w _ _ _ _ (HouseR.own hw NTE NTE NTE NTE NTE) (HouseR.own hw NTE NTE NTE NTE NTE)) (k := ?_)) | (refine idHO ?_; refine goC ?_; refine hCV (fn := 21) (hcon := by intro c w hw; exact c w _ _ _ _ (Rs.ownN hw NTE) (Rs.ownN hw NTE)) (k := ?_)) | (refine idAT ?_; refine aCa ?_; refine aCV (f := 16) (hcon := by intro c w hw; exact c w _ _ (settleM h most).1 (HouseR.own hw NTE NTE NTE NTE NTE) rfl z1) (k := ?_)) | (refine idAT ?_; refine aCa ?_; refine aCV (f := 23) (hcon := by intro c w hw; exact c w _ (settleM h most).2 _ _ (Rs.ownN hw NTE) rfl) (k := ?_)) | refine ST ?_ | refine ST2 ?_ | intro _ | apply And.intro
   all_goals first | rfl | exact absurd (q1.symm.trans ‹eqHouse _ _ = false›) (by decide) | exact absurd (q2.symm.trans ‹eqInts _ _ = false›) (by decide) | exact absurd (q3.symm.trans ‹eqHouse _ _ = false›) (by decide) | (exfalso; omega) | trace_state
 · repeat' first | exact absurd (‹{x : Int // 0 ≤ x → HouseSz h}›.2 (by omega)) hz | refine ST ?_ | intro _ | apply And.intro
   all_goals rfl
theorem exSettle_c (W : World) (h : House) (a1 : Option Addr) (c1 : Nat) (h6 : Rd intL W a1 h.rules.seats) (h1 : h.rules.seats.length ≤ c1) (a2 : Option Addr) (c2 : Nat) (h7 : Rd partyL W a2 h.parties) (h2 : h.parties.length ≤ c2) (a3 : Option Addr) (c3 : Nat) (h8 : Rd (cabinLx 235 272 284) W a3 h.cabins) (h3 : h.cabins.length ≤ c3) (a4 : Option Addr) (c4 : Nat) (h9 : Rd intL W a4 h.todo) (h4 : h.todo.length ≤ c4) (a5 : Option Addr) (c5 : Nat) (h10 : Rd intL W a5 h.jobs) (h5 : h.jobs.length ≤ c5) (most : Int) :
  Spec Tryz.prog W [] 5 #[.agg #[.slice a1 h.rules.seats.length c1, vi h.rules.tiers, vi h.rules.room, vi h.rules.size, vi h.rules.period, vi h.rules.window, vi h.rules.rest, vi h.rules.tries, vi h.rules.crew, vi h.now, vi h.turn, .slice a2 h.parties.length c2, .slice a3 h.cabins.length c3, .slice a4 h.todo.length c4, .slice a5 h.jobs.length c5], vi most] (RV (.bool true)) :=
 exLawSettle_c.pf W _ h most ⟨a1, c1, a2, c2, a3, c3, a4, c4, a5, c5, rfl, h1, h2, h3, h4, h5, h6, h7, h8, h9, h10⟩
end SX
end Go.Proofs.YtaihohlklagdgaaGreat
