/- Texts of this claim, put together by program. -/
import Derived.Test.YtejojcoaohlfbaaGreatAN
import Derived.Test.YtejojcoaohlfbaaGreatSx9
import Derived.Test.YtejojcoaohlfbaaGreatAI
namespace Go.Proofs.YtejojcoaohlfbaaGreat
namespace SX
open Go Go.RowKit
set_option linter.unusedVariables false
set_option linter.unusedSimpArgs false
set_option maxRecDepth 10000
set_option maxHeartbeats 1000000
attribute [local irreducible] CD DN OPL AT QL QT CND RETG BKP HL HT HO slA slHo slP ptC pull pulls
instance s12Field_c : HC 236 (∀ (W : World) (n : Int),Sp W [] 236 #[vi n] (RV (.bool (usedB n)))) := by
 refine ⟨fun W n => gENT (vs := [_]) Tryz.func236 ?_⟩
 repeat' first | refine ST ?_ | intro _ | apply And.intro
 all_goals rfl
instance sDue_c : HC 237 (∀ (W : World) (p : Party) (now : Int),Sp W [] 237 #[.agg (partyE p).toArray, vi now] (RV (.bool (dueB p now)))) := by
 refine ⟨fun W p now => gENT (vs := [_, _]) Tryz.func237 ?_⟩
 repeat' first | refine ST ?_ | intro _ | apply And.intro
 all_goals simp [dueB, *]
instance sReqOk_c : HC 130 (∀ (W : World) (q : Req),Sp W [] 130 #[.agg (reqE q).toArray] (RV (.bool (reqOk q)))) := by
 refine ⟨fun W q => gENT (vs := [_]) Tryz.func130 ?_⟩
 repeat' first | refine ST ?_ | intro _ | apply And.intro
 all_goals first | (simp_all [reqOk, reqEq]; done) | grind [reqOk, reqEq]
instance s12Loose_c : HC 132 (∀ (W : World) (cs : List Value) (h : House) (cabin : Int), HsR W cs h → 0 ≤ cabin → cabin < (h.cabins.length : Int) →Sp W [] 132 #[.agg cs.toArray, vi cabin] (RV (vi (looseAt h cabin)))) := by
 refine ⟨fun W cs h cabin hh hc0 hc1 => ?_⟩
 have hh1 := hh; obtain ⟨a1, c1, a2, c2, a3, c3, a4, c4, a5, c5, rfl, h1, h2, h3, h4, h5, h6, h7, h8, h9, h10⟩ := hh
 have hk : cabin.toNat < h.cabins.length := by omega
 have hx := List.getElem?_eq_getElem hk
 refine gENT (vs := [_, _]) Tryz.func132 ?_
 repeat' first | refine ST ?_ | intro _ | apply And.intro
 all_goals first | (simp only [looseAt, hx]; done) | (simp only [looseAt, hx]; rfl)
instance s12Answer_c : HC 133 (∀ (W : World) (cs : List Value) (h : House) (id : Int), HsR W cs h → h.parties.length ≤ 1048576 →Sp W [] 133 #[.agg cs.toArray, vi id] (RV (vi (vAns h id)))) := by
 refine ⟨fun W cs h id hh hp9 => ?_⟩
 have hh1 := hh; obtain ⟨a1, c1, a2, c2, a3, c3, a4, c4, a5, c5, rfl, h1, h2, h3, h4, h5, h6, h7, h8, h9, h10⟩ := hh
 have hat := atId_lt h.parties id
 refine gENT (vs := [_, _]) Tryz.func133 ?_
 by_cases hneg : atId h.parties id < 0
 · repeat' first | refine ST ?_ | intro _ | apply And.intro
   all_goals first | (simp [vAns, hneg]; done) | (exfalso; omega)
 · have hpo : partyOf h.parties id = h.parties[(atId h.parties id).toNat]'(by omega) := partyOf_of (List.getElem?_eq_getElem (by omega))
   repeat' first | refine ST ?_ | intro _ | apply And.intro
   all_goals first | (exfalso; omega) | (simp only [vAns, if_neg hneg, hpo]; simp [*]; done) | skip
   all_goals trace_state
instance s12Join_c : HC 131 (∀ (W : World) (cs : List Value) (h : House) (q : Req), HsR W cs h → h.parties.length ≤ 1048576 → 0 ≤ q.cabin → -1 ≤ q.from' →Sp W [] 131 #[.agg cs.toArray, .agg (reqE q).toArray] (RV (vi (vJoin h q)))) := by
 refine ⟨fun W cs h q hh hp9 hc0 hf0 => ?_⟩
 have hh1 := hh; obtain ⟨a1, c1, a2, c2, a3, c3, a4, c4, a5, c5, rfl, h1, h2, h3, h4, h5, h6, h7, h8, h9, h10⟩ := hh
 refine gENT (vs := [_, _]) Tryz.func131 ?_
 repeat' first | refine ST ?_ | intro _ | apply And.intro
 all_goals first | (simp [vJoin, *]; done) | (simp_all [vJoin]; done) | skip
 all_goals trace_state
instance sVerdict_c : HC 46 (∀ (W : World) (cs : List Value) (h : House) (q : Req), HsR W cs h → HouseSz h →Sp W [] 46 #[.agg cs.toArray, .agg (reqE q).toArray] (RV (vi (verdict h q)))) := by
 refine ⟨fun W cs h q hh hsz => ?_⟩
 have hh1 := hh; obtain ⟨a1, c1, a2, c2, a3, c3, a4, c4, a5, c5, rfl, h1, h2, h3, h4, h5, h6, h7, h8, h9, h10⟩ := hh
 have hl := h8.len; have hp9 := hsz.2.1
 have hb : ∀ c ∈ h.cabins, c.wheel.spoke.flatten.length ≤ 1048576 := fun c hc => (hsz.2.2.2.2.2 c hc).2.2
 refine gENT (vs := [_, _]) Tryz.func46 ?_
 by_cases hho : houseOk h = true
 · have hR := hp_of hho
   by_cases hro : reqOk q = true
   · obtain ⟨r1, r2, r3, r4, r5, r6⟩ := reqOk_form hro
     have hjb := (JobsP.iff.1 hR.jobs).2.2.2
     repeat' first | refine ST ?_ | intro _ | apply And.intro
     all_goals first
      | (simp_all [verdict, vKind]; done)
      | (simp_all [verdict, vKind, vFree]; done)
      | (have hj9 : h.jobs[q.id.toNat]? = some (h.jobs[q.id.toNat]'(by omega)) := List.getElem?_eq_getElem (by omega)
         have hj8 : jobAt h q.id = h.jobs[q.id.toNat]'(by omega) := by simp only [jobAt, hj9]
         simp_all [verdict, vKind, vPick]; done)
      | (simp_all [verdict, vKind, vPick]; done)
      | grind [verdict, vKind, vFree, vPick, jobAt]
      | trace_state
   · repeat' first | refine ST ?_ | intro _ | apply And.intro
     all_goals first | (simp_all [verdict]; done) | trace_state
 · repeat' first | refine ST ?_ | intro _ | apply And.intro
   all_goals first | (simp_all [verdict]; done) | trace_state
theorem doneV {h : House} {k c n : Int} {q : Req} (hq : q = ⟨k, 0, c, 0, n, 0⟩) (hk : k = 3) (hv : verdict h q = 0) : HRep h ∧ 0 ≤ c ∧ c < (h.cabins.length : Int) := by
 subst hq hk
 have v := verdict_ok hv
 obtain ⟨_, _, r3, _⟩ := reqOk_form v.ok
 have hv := v.v
 refine ⟨v.hp, r3.1, ?_⟩
 simp only [vKind, vFree] at hv
 by_cases hc : c ≥ (h.cabins.length : Int)
 · simp [hc] at hv
 · omega
instance sFreeSeats_c : HC 177 (∀ (W : World) (cs : List Value) (h : House) (cabin n : Int), HsR W cs h → HouseSz h →Sp W [] 177 #[.agg cs.toArray, vi cabin, vi n] (RT2 (RHs (doM h ⟨3, 0, cabin, 0, n, 0⟩)) (RV (vi (verdict h ⟨3, 0, cabin, 0, n, 0⟩))))) := by
 refine ⟨fun W cs h cabin n hh hsz => ?_⟩
 have hh1 := hh; obtain ⟨a1, c1, a2, c2, a3, c3, a4, c4, a5, c5, rfl, h1, h2, h3, h4, h5, h6, h7, h8, h9, h10⟩ := hh
 refine gENT (vs := [_, _, _]) Tryz.func177 ?_
 by_cases hv : verdict h ⟨3, 0, cabin, 0, n, 0⟩ = 0
 · obtain ⟨hR, hc0, hc1⟩ := doneV rfl rfl hv
   have hd : doM h ⟨3, 0, cabin, 0, n, 0⟩ = freeM h cabin n := by rw [doM, if_pos hv]; rfl
   repeat' first | refine ST ?_ | intro _ | apply And.intro
   all_goals first | exact absurd hv ‹_› | (rw [hd]; done) | exact hv.symm | rfl
 · repeat' first | refine ST ?_ | intro _ | apply And.intro
   all_goals first | (rw [doM, if_neg hv]; done) | exact absurd ‹_› hv | rfl
theorem ansV {h : House} {k id : Int} {q : Req} (hq : q = ⟨k, id, 0, 0, 0, 0⟩) (hk : k = 4 ∨ k = 5) (hv : verdict h q = 0) : HRep h ∧ partyOf h.parties id ∈ h.parties ∧ (partyOf h.parties id).id = id ∧ (partyOf h.parties id).state = 2 := by
 subst hq
 have v := verdict_ok hv
 have hv := v.v
 refine ⟨v.hp, ?_⟩
 have : vAns h id = 0 := by
  rcases hk with rfl | rfl <;> simpa [vKind] using hv
 obtain ⟨a, b, c, _⟩ := vAns_ok v.hp this
 exact ⟨a, b, c⟩
theorem cutV {h : House} {k id : Int} {q : Req} (hq : q = ⟨k, id, 0, 0, 0, 0⟩) (hk : k = 2) (hv : verdict h q = 0) : HRep h ∧ partyOf h.parties id ∈ h.parties ∧ (partyOf h.parties id).id = id := by
 subst hq hk
 have v := verdict_ok hv
 have hv := v.v
 refine ⟨v.hp, ?_⟩
 have : ¬ atId h.parties id < 0 := by
  intro h9
  simp [vKind, h9] at hv
 exact partyOf_in this
theorem at_fact {h : House} {id : Int} (hR : HRep h) (hm : partyOf h.parties id ∈ h.parties) (hid : (partyOf h.parties id).id = id) : 0 ≤ atId h.parties id ∧ atId h.parties id < (h.parties.length : Int) ∧ ∀ hk, partyOf h.parties id = h.parties[(atId h.parties id).toNat]'hk := by
 obtain ⟨k9, hk9, hg9⟩ := atId_of hR.ids hm
 rw [hid] at hk9
 have hlt := (List.getElem?_eq_some_iff.1 hg9).1
 refine ⟨by omega, by omega, fun hk => partyOf_of (List.getElem?_eq_getElem hk)⟩
theorem sold_sz {h : House} {p : Party} (hs : HouseSz h) : HouseSz (soldM h p) := by
 obtain ⟨s1, s2, s3, s4, s5, s6⟩ := hs
 refine ⟨s1, s2, by unfold soldM; dsimp only; rw [modC_len]; exact s3, s4, s5, ?_⟩
 refine modC_sz s6 fun c hc => ?_
 have := wheelCut_len c.wheel ⟨p.until', p.id⟩
 exact ⟨hc.1, by show (wheelCut _ _).spoke.length ≤ _; rw [this.1]; exact hc.2.1, by show (wheelCut _ _).spoke.flatten.length ≤ _; exact Nat.le_trans this.2 hc.2.2⟩
theorem gone_len {h : House} {p : Party} : (goneM h p).cabins.length = h.cabins.length := by
 unfold goneM; dsimp only; split <;> simp only [modC_len]
theorem accF {h : House} {p : Party} (hR : HRep h) (hm : p ∈ h.parties) (hs : p.state = 2) (hk : p.cabin.toNat < h.cabins.length) (hf : p.from' < (h.cabins.length : Int)) :
 (⟨h.rules, h.now, h.turn, h.parties, h.cabins.set p.cabin.toNat ⟨lSell (h.cabins[p.cabin.toNat]'hk).seats p.size, (h.cabins[p.cabin.toNat]'hk).row, wheelCut (h.cabins[p.cabin.toNat]'hk).wheel ⟨p.until', p.id⟩⟩, h.todo, h.jobs⟩ : House) = soldM h p ∧
 HouseSz ⟨h.rules, h.now, h.turn, h.parties, h.cabins.set p.cabin.toNat ⟨lSell (h.cabins[p.cabin.toNat]'hk).seats p.size, (h.cabins[p.cabin.toNat]'hk).row, wheelCut (h.cabins[p.cabin.toNat]'hk).wheel ⟨p.until', p.id⟩⟩, h.todo, h.jobs⟩ ∧
 HouseSz (goneM ⟨h.rules, h.now, h.turn, h.parties, h.cabins.set p.cabin.toNat ⟨lSell (h.cabins[p.cabin.toNat]'hk).seats p.size, (h.cabins[p.cabin.toNat]'hk).row, wheelCut (h.cabins[p.cabin.toNat]'hk).wheel ⟨p.until', p.id⟩⟩, h.todo, h.jobs⟩ p) ∧
 (goneM ⟨h.rules, h.now, h.turn, h.parties, h.cabins.set p.cabin.toNat ⟨lSell (h.cabins[p.cabin.toNat]'hk).seats p.size, (h.cabins[p.cabin.toNat]'hk).row, wheelCut (h.cabins[p.cabin.toNat]'hk).wheel ⟨p.until', p.id⟩⟩, h.todo, h.jobs⟩ p).cabins.length = h.cabins.length ∧
 p.from' < ((goneM ⟨h.rules, h.now, h.turn, h.parties, h.cabins.set p.cabin.toNat ⟨lSell (h.cabins[p.cabin.toNat]'hk).seats p.size, (h.cabins[p.cabin.toNat]'hk).row, wheelCut (h.cabins[p.cabin.toNat]'hk).wheel ⟨p.until', p.id⟩⟩, h.todo, h.jobs⟩ p).cabins.length : Int) := by
 have hM : (⟨h.rules, h.now, h.turn, h.parties, h.cabins.set p.cabin.toNat ⟨lSell (h.cabins[p.cabin.toNat]'hk).seats p.size, (h.cabins[p.cabin.toNat]'hk).row, wheelCut (h.cabins[p.cabin.toNat]'hk).wheel ⟨p.until', p.id⟩⟩, h.todo, h.jobs⟩ : House) = soldM h p := by rw [soldM, modC_of _ (List.getElem?_eq_getElem hk)]; rfl
 rw [hM]
 have hl : (goneM (soldM h p) p).cabins.length = h.cabins.length := by rw [gone_len]; unfold soldM; dsimp only; rw [modC_len]
 exact ⟨rfl, sold_sz hR.sz, (goneSold_hp hR hm hs).sz, hl, by rw [hl]; exact hf⟩
instance sAccept_c : HC 178 (∀ (W : World) (cs : List Value) (h : House) (id : Int), HsR W cs h → HouseSz h →Sp W [] 178 #[.agg cs.toArray, vi id] (RT2 (RHs (doM h ⟨4, id, 0, 0, 0, 0⟩)) (RV (vi (verdict h ⟨4, id, 0, 0, 0, 0⟩))))) := by
 refine ⟨fun W cs h id hh hsz => ?_⟩
 have hh1 := hh; obtain ⟨a1, c1, a2, c2, a3, c3, a4, c4, a5, c5, rfl, h1, h2, h3, h4, h5, h6, h7, h8, h9, h10⟩ := hh
 refine gENT (vs := [_, _]) Tryz.func178 ?_
 by_cases hv : verdict h ⟨4, id, 0, 0, 0, 0⟩ = 0
 · obtain ⟨hR, pm, pid, pst⟩ := ansV rfl (.inl rfl) hv
   obtain ⟨p1, p2, p3⟩ := at_fact hR pm pid
   have p4 := p3 (by omega)
   have hd : doM h ⟨4, id, 0, 0, 0, 0⟩ = acceptM h (partyOf h.parties id) := by rw [doM, if_pos hv]; rfl
   have g := hR.pr pm; have g1 := g.cab; have g2 := g.frm; have g3 := hR.cabs
   rw [p4] at hd g1 g2
   have hp9 := hsz.2.1
   have hk : ((h.parties[(atId h.parties id).toNat]'(by omega)).cabin).toNat < h.cabins.length := by omega
   have hx := List.getElem?_eq_getElem hk
   obtain ⟨hs1, hs2, hs3⟩ := hsz.2.2.2.2.2 _ (List.getElem_mem hk)
   rw [p4] at pm pst
   obtain ⟨f1, f2, f3, f4, f5⟩ := accF hR pm pst hk (by omega)
   have f6 : ∀ m : House, m = soldM h (h.parties[(atId h.parties id).toNat]'(by omega)) → ((h.parties[(atId h.parties id).toNat]'(by omega)).from' < 0 → goneM m (h.parties[(atId h.parties id).toNat]'(by omega)) = doM h ⟨4, id, 0, 0, 0, 0⟩) ∧ (¬ (h.parties[(atId h.parties id).toNat]'(by omega)).from' < 0 → freeM (goneM m (h.parties[(atId h.parties id).toNat]'(by omega))) (h.parties[(atId h.parties id).toNat]'(by omega)).from' (h.parties[(atId h.parties id).toNat]'(by omega)).size = doM h ⟨4, id, 0, 0, 0, 0⟩) := by
    intro m hm
    subst hm
    rw [hd, acceptM]
    exact ⟨fun h => by rw [if_pos h], fun h => by rw [if_neg h]⟩
   repeat' first | refine ST ?_ | refine ST2 ?_ | intro _ | apply And.intro
   all_goals first | exact absurd hv ‹verdict h _ ≠ 0› | exact (f6 _ f1).2 (by omega) | exact (f6 _ f1).1 (by omega) | exact hv.symm | rfl | trace_state
 · repeat' first | refine ST ?_ | intro _ | apply And.intro
   all_goals first | (rw [doM, if_neg hv]; done) | exact absurd ‹_› hv | rfl
end SX
end Go.Proofs.YtejojcoaohlfbaaGreat
