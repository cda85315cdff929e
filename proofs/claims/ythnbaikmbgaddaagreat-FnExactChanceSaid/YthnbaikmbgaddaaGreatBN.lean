/- Texts of this claim, put together by program. -/
import Derived.Test.YthnbaikmbgaddaaGreatBL
import Derived.Test.YthnbaikmbgaddaaGreatBB
/- The program's side: offers that run out. -/
namespace Go.Proofs.YthnbaikmbgaddaaGreat
namespace SX
open Go Go.RowKit
set_option linter.unusedVariables false
set_option linter.unusedSimpArgs false
set_option maxRecDepth 10000
set_option maxHeartbeats 1000000
attribute [local irreducible] CD DN OPL AT QL QT CND RETG BKP HL HT HO slA slHo slP ptC pull pulls
theorem decl_fails {h : House} {p : Party} (hp : HRep h) (hm : p ∈ h.parties) (hs : p.state = 2) : declM h p = failsM h p := by
  have hR2 := fails_hp hp hm hs
  unfold declM failsM at *
  split
  · rename_i hb
    rw [if_pos hb] at hR2
    have g9 := hp.pr hm; have gc9 := g9.cab; have gl9 := hp.cabs
    have hk : p.cabin.toNat < h.cabins.length := by omega
    have hx := List.getElem?_eq_getElem hk
    rw [modC_of _ hx] at hR2
    have h2 := (agrees_row (houseP_iff.2 hR2) (k := p.cabin.toNat) (List.getElem?_set_self hk)).1
    have h1 := (agrees_row (houseP_iff.2 hp) hx).1
    have h3 : rowPutW (entryOf h.rules (failedP h.rules p h.now) h.now) (dropC p h.cabins[p.cabin.toNat]) = rowPut (entryOf h.rules (failedP h.rules p h.now) h.now) (dropC p h.cabins[p.cabin.toNat]) := by
      have h4 := (queuePut_t (queueOk_t h1) (queueOk_t h2)).1
      show Cabin.mk _ _ _ = Cabin.mk _ _ _
      exact congrArg (fun r => Cabin.mk _ r _) h4
    rw [modC_of _ hx, modC_of _ hx, h3]
  · rfl
instance iExpire_c : HC 106 (∀ (W : World) (cs : List Value) (h : House) (cabin : Int), HsR W cs h → HRep h → 0 ≤ cabin → cabin < (h.cabins.length : Int) →Sp W [] 106 #[.agg cs.toArray, vi cabin] (RHs (expireM h cabin))) := by
 refine ⟨fun W cs h cabin hh hR hc0 hc1 => ?_⟩
 have hh1 := hh; obtain ⟨a1, c1, a2, c2, a3, c3, a4, c4, a5, c5, rfl, h1, h2, h3, h4, h5, h6, h7, h8, h9, h10⟩ := hh
 have hsz := hR.sz; have hdl := dueIds_len h cabin
 refine gENT (vs := [_, _]) Tryz.func106 ?_
 repeat' first | refine ST ?_ | refine ST2 ?_ | intro _ | apply And.intro
 rename_i xh xd
 refine gFORG 14 (dueIds h cabin).length (fun _ => []) [(2, fun q : House × H5 => hCl q.1 q.2)] (fun q => hOs q.1 q.2) (fun k q => HRep q.1 ∧ DueP q.1.parties ((dueIds h cabin).drop k) ∧ expireGo ((dueIds h cabin).drop k) q.1 = expireM h cabin) (h, xh) (h0 := ⟨hR, due_start hR hc0, rfl⟩) (body := fun k q hk hi => ?_)
 obtain ⟨x, ⟨b1, d1⟩, ⟨b2, d2⟩, ⟨b3, d3⟩, ⟨b4, d4⟩, b5, d5⟩ := q
 obtain ⟨hR2, hD, hE⟩ : HRep x ∧ DueP x.parties ((dueIds h cabin).drop k) ∧ expireGo ((dueIds h cabin).drop k) x = expireM h cabin := hi
 by_cases hkl : k < (dueIds h cabin).length
 · have hdr := List.drop_eq_getElem_cons hkl
   rw [hdr] at hD hE
   have hsz2 := hR2.sz
   have hat := due_at hR2 hD; have hal := atId_lt x.parties (dueIds h cabin)[k]
   have hat0 : 0 ≤ atId x.parties (dueIds h cabin)[k] := by omega
   have hpx : x.parties[(atId x.parties (dueIds h cabin)[k]).toNat]? = some (x.parties[(atId x.parties (dueIds h cabin)[k]).toNat]'(by omega)) := List.getElem?_eq_getElem (by omega)
   have hmem : (x.parties[(atId x.parties (dueIds h cabin)[k]).toNat]'(by omega)) ∈ x.parties := List.getElem_mem _
   have hst := due_state hR2 hD hpx
   have hid : (x.parties[(atId x.parties (dueIds h cabin)[k]).toNat]'(by omega)).id = (dueIds h cabin)[k] := by
    have h9 := (due_step hR2 hD).2.1
    rw [partyOf_of hpx] at h9; exact h9
   have g9 := hR2.pr hmem; have gc9 := g9.cab; have gf9 := g9.frm; have gl9 := hR2.cabs
   have hcc0 : 0 ≤ (x.parties[(atId x.parties (dueIds h cabin)[k]).toNat]'(by omega)).cabin := by omega
   have hcc1 : (x.parties[(atId x.parties (dueIds h cabin)[k]).toNat]'(by omega)).cabin < (x.cabins.length : Int) := by omega
   have hff0 : -1 ≤ (x.parties[(atId x.parties (dueIds h cabin)[k]).toNat]'(by omega)).from' := by omega
   have hff1 : (x.parties[(atId x.parties (dueIds h cabin)[k]).toNat]'(by omega)).from' < (x.cabins.length : Int) := by omega
   obtain ⟨n1, n2, n3⟩ := due_next hR2 hD hpx (decl_fails hR2 hmem hst)
   repeat' first | refine ST ?_ | refine ST2 ?_ | intro _ | apply And.intro
   all_goals first | (exfalso; omega) | (refine gGBACK (_, ((_, _), (_, _), (_, _), (_, _), _, _)) hkl (h := ?_); exact ⟨n1, n2, n3.trans hE⟩)
 · rw [List.drop_eq_nil_of_le (by omega)] at hE
   repeat' first | refine ST ?_ | refine ST2 ?_ | intro _ | apply And.intro
   all_goals first | (exfalso; omega) | exact hE | trace_state
end SX
end Go.Proofs.YthnbaikmbgaddaaGreat
/- A cabin's offers that are due. -/
namespace Go.Proofs.YthnbaikmbgaddaaGreat
namespace SX
open Go Go.RowKit
set_option linter.unusedVariables false
set_option linter.unusedSimpArgs false
set_option maxRecDepth 10000
set_option maxHeartbeats 1000000
attribute [local irreducible] CD DN OPL AT QL QT CND RETG BKP HL HT HO slA slHo slP ptC pull pulls
instance s15Expire_c : HC 199 (∀ (W : World) (cs : List Value) (h : House) (pre : List Ass) (cabin : Int), HsO cs h pre → HRep h → 0 ≤ cabin → cabin < (h.cabins.length : Int) →Sp W pre 199 #[.agg cs.toArray, vi cabin] (RHs (expireM h cabin))) := by
 refine ⟨fun W cs h pre cabin ⟨⟨⟨a1, c1⟩, ⟨a2, c2⟩, ⟨a3, c3⟩, ⟨a4, c4⟩, a5, c5⟩, e1, e2⟩ hR hc0 hc1 => ?_⟩
 subst e1 e2
 have hsz := hR.sz; have hdl := dueIds_len h cabin
 refine gENTO (vs := [_, _]) Tryz.func199 (fun S0 => ?_)
 repeat' first | refine ST ?_ | intro _ | apply And.intro
 refine gFORG 6 (dueIds h cabin).length (fun _ => []) [(0, fun q : House × H5 => hCl q.1 q.2)] (fun q => hOs q.1 q.2) (fun k q => HRep q.1 ∧ DueP q.1.parties ((dueIds h cabin).drop k) ∧ expireGo ((dueIds h cabin).drop k) q.1 = expireM h cabin) (h, ((a1, c1), (a2, c2), (a3, c3), (a4, c4), a5, c5)) (h0 := ⟨hR, due_start hR hc0, rfl⟩) (body := fun k q hk hi => ?_)
 obtain ⟨x, ⟨b1, d1⟩, ⟨b2, d2⟩, ⟨b3, d3⟩, ⟨b4, d4⟩, b5, d5⟩ := q
 obtain ⟨hR2, hD, hE⟩ : HRep x ∧ DueP x.parties ((dueIds h cabin).drop k) ∧ expireGo ((dueIds h cabin).drop k) x = expireM h cabin := hi
 by_cases hkl : k < (dueIds h cabin).length
 · have hdr := List.drop_eq_getElem_cons hkl
   rw [hdr] at hD hE
   have hat := due_at hR2 hD; have hal := atId_lt x.parties (dueIds h cabin)[k]
   have hmem : (x.parties[(atId x.parties (dueIds h cabin)[k]).toNat]'(by omega)) ∈ x.parties := List.getElem_mem _
   obtain ⟨n1, n2, n3⟩ := due_next hR2 hD (List.getElem?_eq_getElem (show (atId x.parties (dueIds h cabin)[k]).toNat < x.parties.length by omega)) rfl
   repeat' first | refine ST ?_ | intro _ | apply And.intro
   all_goals first | (exfalso; omega) | (refine gGBACK (_, ((_, _), (_, _), (_, _), (_, _), _, _)) hkl (h := ?_); exact ⟨n1, n2, n3.trans hE⟩)
 · rw [List.drop_eq_nil_of_le (by omega)] at hE
   repeat' first | refine ST ?_ | intro _ | apply And.intro
   all_goals first | (exfalso; omega) | exact hE
end SX
end Go.Proofs.YthnbaikmbgaddaaGreat
/- The reference's side: a cabin that there is; seats that move; jobs to do. -/
namespace Go.Proofs.YthnbaikmbgaddaaGreat
namespace SX
open Go Go.RowKit
set_option linter.unusedVariables false
set_option linter.unusedSimpArgs false
set_option maxRecDepth 10000
set_option maxHeartbeats 1000000
attribute [local irreducible] CD DN OPL AT QL QT CND RETG BKP HL HT HO slA slHo slP ptC pull pulls
instance s15Ok_c : HC 126 (∀ (W : World) (cs : List Value) (h : House) (cabin : Int), HsR W cs h → HouseSz h →Sp W [] 126 #[.agg cs.toArray, vi cabin] (RV (.bool (hasCab h cabin)))) := by
 refine ⟨fun W cs h cabin hh hsz => ?_⟩
 have hh1 := hh; obtain ⟨a1, c1, a2, c2, a3, c3, a4, c4, a5, c5, rfl, h1, h2, h3, h4, h5, h6, h7, h8, h9, h10⟩ := hh
 have hl := h8.len
 have hb : ∀ c ∈ h.cabins, c.wheel.spoke.flatten.length ≤ 1048576 := fun c hc => (hsz.2.2.2.2.2 c hc).2.2
 refine gENT (vs := [_, _]) Tryz.func126 ?_
 repeat' first | refine ST ?_ | intro _ | apply And.intro
 all_goals first | (simp [hasCab, *]; done) | (simp only [hasCab, ‹houseOk h = true›, Bool.true_and]; rfl)
instance sSeatsFree_c : HC 273 (∀ (W : World) (l : Ledger) (n : Int),Sp W [] 273 #[.agg (ledgerE l).toArray, vi n] (RT2 (RV (.agg (ledgerE (lFree l n)).toArray)) RBo)) := by
 refine ⟨fun W l n => gENT (vs := [_, _]) Tryz.func273 ?_⟩
 repeat' first | refine ST ?_ | intro _ | apply And.intro
 all_goals first | trivial | (rw [turn_free]; rfl)
instance sSeatsSell_c : HC 194 (∀ (W : World) (l : Ledger) (n : Int),Sp W [] 194 #[.agg (ledgerE l).toArray, vi n] (RT2 (RV (.agg (ledgerE (lSell l n)).toArray)) RBo)) := by
 refine ⟨fun W l n => gENT (vs := [_, _]) Tryz.func194 ?_⟩
 repeat' first | refine ST ?_ | intro _ | apply And.intro
 all_goals first | trivial | (rw [turn_sell]; rfl)
instance sSeatsHold_c : HC 290 (∀ (W : World) (l : Ledger) (n : Int),Sp W [] 290 #[.agg (ledgerE l).toArray, vi n] (RT2 (RV (.agg (ledgerE (lHold l n)).toArray)) RBo)) := by
 refine ⟨fun W l n => gENT (vs := [_, _]) Tryz.func290 ?_⟩
 repeat' first | refine ST ?_ | intro _ | apply And.intro
 all_goals first | trivial | (rw [turn_hold]; rfl)
instance sTodoPut_c : HC 150 (∀ (W : World) (list : List Int) (v : Value) (x : Int), Rs intL W v list → list.length ≤ 1048576 →Sp W [] 150 #[v, vi x] (RO 3 intL (todoPut list x))) := by
 refine ⟨fun W list v x ⟨a, c, e, hc, hr⟩ hb => ?_⟩
 subst e
 refine gENT (vs := [_, _]) Tryz.func150 ?_
 repeat' first | refine ST ?_ | intro _ | apply And.intro
 all_goals simp [todoPut, *]
end SX
end Go.Proofs.YthnbaikmbgaddaaGreat
/- The reference's side: offers that run out in a copy; a chance. -/
namespace Go.Proofs.YthnbaikmbgaddaaGreat
namespace SX
open Go Go.RowKit
set_option linter.unusedVariables false
set_option linter.unusedSimpArgs false
set_option maxRecDepth 10000
set_option maxHeartbeats 1000000
attribute [local irreducible] CD DN OPL AT QL QT CND RETG BKP HL HT HO slA slHo slP ptC pull pulls
noncomputable def chanceFree (h : House) (k : Int) : Int := match (expireM h k).cabins[k.toNat]? with
  | some c => c.seats.free
  | none => 0
noncomputable def chanceP (h : House) (p : Party) : Bool := p.state == 1 && !restingB p h.now && decide (p.size ≤ chanceFree h p.cabin)
noncomputable def chanceB (h : House) (id : Int) : Bool := houseOk h && !decide (atId h.parties id < 0) && chanceP h (partyOf h.parties id)
theorem expireM_len (h : House) (k : Int) : (expireM h k).cabins.length = h.cabins.length := (expireGo_same (dueIds h k) h).2.2.2.2.2
theorem chance_no {h : House} {id : Int} (hb : houseOk h = false ∨ atId h.parties id < 0) : chanceB h id = false := by
  rcases hb with h1 | h1 <;> simp [chanceB, h1]
theorem chance_yes {h : House} {id : Int} {p : Party} (h1 : houseOk h = true) (h2 : ¬ atId h.parties id < 0) (hp : h.parties[(atId h.parties id).toNat]? = some p) : chanceB h id = chanceP h p := by
  unfold chanceB
  rw [h1, partyOf_of hp]; simp only [decide_eq_false h2, Bool.not_false, Bool.true_and]
theorem chanceP_yes {h : House} {p : Party} (h1 : p.state = 1) (h2 : restingB p h.now = false) (hc : p.cabin.toNat < (expireM h p.cabin).cabins.length) : decide (p.size ≤ ((expireM h p.cabin).cabins[p.cabin.toNat]'hc).seats.free) = chanceP h p := by
  unfold chanceP chanceFree
  rw [List.getElem?_eq_getElem hc]; simp [h1, h2]
theorem chanceP_st {h : House} {p : Party} (h1 : p.state ≠ 1) : false = chanceP h p := by simp [chanceP, h1]
theorem chanceP_rest {h : House} {p : Party} (h1 : restingB p h.now = true) : false = chanceP h p := by simp [chanceP, h1]
instance sExpire_c : HC 100 (∀ (W : World) (cs : List Value) (h : House) (cabin : Int), HsR W cs h → HRep h → 0 ≤ cabin → cabin < (h.cabins.length : Int) →Sp W [] 100 #[.agg cs.toArray, vi cabin] (RHs (expireM h cabin))) := by
 refine ⟨fun W cs h cabin hh hR hc0 hc1 => ?_⟩
 have hh1 := hh; obtain ⟨a1, c1, a2, c2, a3, c3, a4, c4, a5, c5, rfl, h1, h2, h3, h4, h5, h6, h7, h8, h9, h10⟩ := hh
 have hsz := hR.sz; have hcb := hasCab_mk hR hc0 hc1
 refine gENT (vs := [_, _]) Tryz.func100 ?_
 repeat' first | refine ST ?_ | intro _ | apply And.intro
 all_goals first | rfl | exact absurd (‹hasCab h cabin = false›.symm.trans hcb) (by decide)
instance sChance_c : HC 31 (∀ (W : World) (cs : List Value) (h : House) (id : Int), HsR W cs h → HouseSz h →Sp W [] 31 #[.agg cs.toArray, vi id] (RV (.bool (chanceB h id)))) := by
 refine ⟨fun W cs h id hh hsz => ?_⟩
 have hh1 := hh; obtain ⟨a1, c1, a2, c2, a3, c3, a4, c4, a5, c5, rfl, h1, h2, h3, h4, h5, h6, h7, h8, h9, h10⟩ := hh
 have hsb : ∀ c ∈ h.cabins, c.wheel.spoke.flatten.length ≤ 1048576 := fun c hc => (hsz.2.2.2.2.2 c hc).2.2
 have hal := atId_lt h.parties id
 refine gENT (vs := [_, _]) Tryz.func31 ?_
 by_cases hok : houseOk h = true
 · have hR := houseP_iff.1 (houseP_of hok)
   by_cases hat : atId h.parties id < 0
   · repeat' first | refine ST ?_ | intro _ | apply And.intro
     all_goals first | (rw [chance_no (.inr hat)]; done) | (exfalso; omega) | trace_state
   · have hat0 : 0 ≤ atId h.parties id := by omega
     have hmem : (h.parties[(atId h.parties id).toNat]'(by omega)) ∈ h.parties := List.getElem_mem _
     have g9 := hR.pr hmem; have gc9 := g9.cab; have gl9 := hR.cabs
     have hcc0 : 0 ≤ (h.parties[(atId h.parties id).toNat]'(by omega)).cabin := by omega
     have hcc1 : (h.parties[(atId h.parties id).toNat]'(by omega)).cabin < (h.cabins.length : Int) := by omega
     have hce : (h.parties[(atId h.parties id).toNat]'(by omega)).cabin < ((expireM h (h.parties[(atId h.parties id).toNat]'(by omega)).cabin).cabins.length : Int) := by rw [expireM_len]; omega
     have hx := List.getElem?_eq_getElem (show (atId h.parties id).toNat < h.parties.length by omega)
     repeat' first | refine ST ?_ | intro _ | apply And.intro
     all_goals first | (exfalso; omega) | exact absurd (‹houseOk h = false›.symm.trans hok) (by decide) | (rw [chance_yes hok hat hx]; first | exact chanceP_yes ‹_› ‹_› (by omega) | exact chanceP_st ‹_› | exact chanceP_rest ‹_›) | trace_state
 · repeat' first | refine ST ?_ | intro _ | apply And.intro
   all_goals first | (rw [chance_no (.inl (by simpa using hok))]; done) | exact absurd ‹houseOk h = true› hok | trace_state
end SX
end Go.Proofs.YthnbaikmbgaddaaGreat
/- The program's side: a chance. -/
namespace Go.Proofs.YthnbaikmbgaddaaGreat
namespace SX
open Go Go.RowKit
set_option linter.unusedVariables false
set_option linter.unusedSimpArgs false
set_option maxRecDepth 10000
set_option maxHeartbeats 1000000
attribute [local irreducible] CD DN OPL AT QL QT CND RETG BKP HL HT HO slA slHo slP ptC pull pulls
instance iChance_c : HC 33 (∀ (W : World) (cs : List Value) (h : House) (id : Int), HsR W cs h → HouseSz h →Sp W [] 33 #[.agg cs.toArray, vi id] (RV (.bool (chanceB h id)))) := by
 refine ⟨fun W cs h id hh hsz => ?_⟩
 have hh1 := hh; obtain ⟨a1, c1, a2, c2, a3, c3, a4, c4, a5, c5, rfl, h1, h2, h3, h4, h5, h6, h7, h8, h9, h10⟩ := hh
 have hsb : ∀ c ∈ h.cabins, c.wheel.spoke.flatten.length ≤ 1048576 := fun c hc => (hsz.2.2.2.2.2 c hc).2.2
 have hal := atId_lt h.parties id
 refine gENT (vs := [_, _]) Tryz.func33 ?_
 by_cases hok : houseOk h = true
 · have hR := houseP_iff.1 (houseP_of hok)
   by_cases hat : atId h.parties id < 0
   · repeat' first | refine ST ?_ | intro _ | apply And.intro
     all_goals first | (rw [chance_no (.inr hat)]; done) | (exfalso; omega) | trace_state
   · have hat0 : 0 ≤ atId h.parties id := by omega
     have hmem : (h.parties[(atId h.parties id).toNat]'(by omega)) ∈ h.parties := List.getElem_mem _
     have g9 := hR.pr hmem; have gc9 := g9.cab; have gl9 := hR.cabs
     have hcc0 : 0 ≤ (h.parties[(atId h.parties id).toNat]'(by omega)).cabin := by omega
     have hcc1 : (h.parties[(atId h.parties id).toNat]'(by omega)).cabin < (h.cabins.length : Int) := by omega
     have hce : (h.parties[(atId h.parties id).toNat]'(by omega)).cabin < ((expireM h (h.parties[(atId h.parties id).toNat]'(by omega)).cabin).cabins.length : Int) := by rw [expireM_len]; omega
     have hx := List.getElem?_eq_getElem (show (atId h.parties id).toNat < h.parties.length by omega)
     repeat' first | refine ST ?_ | intro _ | apply And.intro
     all_goals first | (exfalso; omega) | exact absurd (‹houseOk h = false›.symm.trans hok) (by decide) | (rw [chance_yes hok hat hx]; first | exact chanceP_yes ‹_› ‹_› (by omega) | exact chanceP_st ‹_› | exact chanceP_rest ‹_›) | trace_state
 · repeat' first | refine ST ?_ | intro _ | apply And.intro
   all_goals first | (rw [chance_no (.inl (by simpa using hok))]; done) | exact absurd ‹houseOk h = true› hok | trace_state
end SX
end Go.Proofs.YthnbaikmbgaddaaGreat
