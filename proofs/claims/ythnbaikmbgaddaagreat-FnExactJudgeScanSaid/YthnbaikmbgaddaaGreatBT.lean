/- Texts of this claim, put together by program. -/
import Derived.Test.YthnbaikmbgaddaaGreatBL
import Derived.Test.YthnbaikmbgaddaaGreatBB
/- The program's side: offers that run out. -/
namespace Go.Proofs.YthnbaikmbgaddaaGreat
namespace SX
open Go Go.RowKit
set_option linter.unusedVariables false
set_option linter.unusedSimpArgs false
set_option maxRecDepth 10000
set_option maxHeartbeats 1000000
attribute [local irreducible] CD DN OPL AT QL QT CND RETG BKP HL HT HO slA slHo slP ptC pull pulls
theorem decl_fails {h : House} {p : Party} (hp : HRep h) (hm : p ∈ h.parties) (hs : p.state = 2) : declM h p = failsM h p := by
  have hR2 := fails_hp hp hm hs
  unfold declM failsM at *
  split
  · rename_i hb
    rw [if_pos hb] at hR2
    have g9 := hp.pr hm; have gc9 := g9.cab; have gl9 := hp.cabs
    have hk : p.cabin.toNat < h.cabins.length := by omega
    have hx := List.getElem?_eq_getElem hk
    rw [modC_of _ hx] at hR2
    have h2 := (agrees_row (houseP_iff.2 hR2) (k := p.cabin.toNat) (List.getElem?_set_self hk)).1
    have h1 := (agrees_row (houseP_iff.2 hp) hx).1
    have h3 : rowPutW (entryOf h.rules (failedP h.rules p h.now) h.now) (dropC p h.cabins[p.cabin.toNat]) = rowPut (entryOf h.rules (failedP h.rules p h.now) h.now) (dropC p h.cabins[p.cabin.toNat]) := by
      have h4 := (queuePut_t (queueOk_t h1) (queueOk_t h2)).1
      show Cabin.mk _ _ _ = Cabin.mk _ _ _
      exact congrArg (fun r => Cabin.mk _ r _) h4
    rw [modC_of _ hx, modC_of _ hx, h3]
  · rfl
instance iExpire_c : HC 106 (∀ (W : World) (cs : List Value) (h : House) (cabin : Int), HsR W cs h → HRep h → 0 ≤ cabin → cabin < (h.cabins.length : Int) →Sp W [] 106 #[.agg cs.toArray, vi cabin] (RHs (expireM h cabin))) := by
 refine ⟨fun W cs h cabin hh hR hc0 hc1 => ?_⟩
 have hh1 := hh; obtain ⟨a1, c1, a2, c2, a3, c3, a4, c4, a5, c5, rfl, h1, h2, h3, h4, h5, h6, h7, h8, h9, h10⟩ := hh
 have hsz := hR.sz; have hdl := dueIds_len h cabin
 refine gENT (vs := [_, _]) Tryz.func106 ?_
 repeat' first | refine ST ?_ | refine ST2 ?_ | intro _ | apply And.intro
 rename_i xh xd
 refine gFORG 14 (dueIds h cabin).length (fun _ => []) [(2, fun q : House × H5 => hCl q.1 q.2)] (fun q => hOs q.1 q.2) (fun k q => HRep q.1 ∧ DueP q.1.parties ((dueIds h cabin).drop k) ∧ expireGo ((dueIds h cabin).drop k) q.1 = expireM h cabin) (h, xh) (h0 := ⟨hR, due_start hR hc0, rfl⟩) (body := fun k q hk hi => ?_)
 obtain ⟨x, ⟨b1, d1⟩, ⟨b2, d2⟩, ⟨b3, d3⟩, ⟨b4, d4⟩, b5, d5⟩ := q
 obtain ⟨hR2, hD, hE⟩ : HRep x ∧ DueP x.parties ((dueIds h cabin).drop k) ∧ expireGo ((dueIds h cabin).drop k) x = expireM h cabin := hi
 by_cases hkl : k < (dueIds h cabin).length
 · have hdr := List.drop_eq_getElem_cons hkl
   rw [hdr] at hD hE
   have hsz2 := hR2.sz
   have hat := due_at hR2 hD; have hal := atId_lt x.parties (dueIds h cabin)[k]
   have hat0 : 0 ≤ atId x.parties (dueIds h cabin)[k] := by omega
   have hpx : x.parties[(atId x.parties (dueIds h cabin)[k]).toNat]? = some (x.parties[(atId x.parties (dueIds h cabin)[k]).toNat]'(by omega)) := List.getElem?_eq_getElem (by omega)
   have hmem : (x.parties[(atId x.parties (dueIds h cabin)[k]).toNat]'(by omega)) ∈ x.parties := List.getElem_mem _
   have hst := due_state hR2 hD hpx
   have hid : (x.parties[(atId x.parties (dueIds h cabin)[k]).toNat]'(by omega)).id = (dueIds h cabin)[k] := by
    have h9 := (due_step hR2 hD).2.1
    rw [partyOf_of hpx] at h9; exact h9
   have g9 := hR2.pr hmem; have gc9 := g9.cab; have gf9 := g9.frm; have gl9 := hR2.cabs
   have hcc0 : 0 ≤ (x.parties[(atId x.parties (dueIds h cabin)[k]).toNat]'(by omega)).cabin := by omega
   have hcc1 : (x.parties[(atId x.parties (dueIds h cabin)[k]).toNat]'(by omega)).cabin < (x.cabins.length : Int) := by omega
   have hff0 : -1 ≤ (x.parties[(atId x.parties (dueIds h cabin)[k]).toNat]'(by omega)).from' := by omega
   have hff1 : (x.parties[(atId x.parties (dueIds h cabin)[k]).toNat]'(by omega)).from' < (x.cabins.length : Int) := by omega
   obtain ⟨n1, n2, n3⟩ := due_next hR2 hD hpx (decl_fails hR2 hmem hst)
   repeat' first | refine ST ?_ | refine ST2 ?_ | intro _ | apply And.intro
   all_goals first | (exfalso; omega) | (refine gGBACK (_, ((_, _), (_, _), (_, _), (_, _), _, _)) hkl (h := ?_); exact ⟨n1, n2, n3.trans hE⟩)
 · rw [List.drop_eq_nil_of_le (by omega)] at hE
   repeat' first | refine ST ?_ | refine ST2 ?_ | intro _ | apply And.intro
   all_goals first | (exfalso; omega) | exact hE | trace_state
end SX
end Go.Proofs.YthnbaikmbgaddaaGreat
/- A cabin's offers that are due. -/
namespace Go.Proofs.YthnbaikmbgaddaaGreat
namespace SX
open Go Go.RowKit
set_option linter.unusedVariables false
set_option linter.unusedSimpArgs false
set_option maxRecDepth 10000
set_option maxHeartbeats 1000000
attribute [local irreducible] CD DN OPL AT QL QT CND RETG BKP HL HT HO slA slHo slP ptC pull pulls
instance s15Expire_c : HC 199 (∀ (W : World) (cs : List Value) (h : House) (pre : List Ass) (cabin : Int), HsO cs h pre → HRep h → 0 ≤ cabin → cabin < (h.cabins.length : Int) →Sp W pre 199 #[.agg cs.toArray, vi cabin] (RHs (expireM h cabin))) := by
 refine ⟨fun W cs h pre cabin ⟨⟨⟨a1, c1⟩, ⟨a2, c2⟩, ⟨a3, c3⟩, ⟨a4, c4⟩, a5, c5⟩, e1, e2⟩ hR hc0 hc1 => ?_⟩
 subst e1 e2
 have hsz := hR.sz; have hdl := dueIds_len h cabin
 refine gENTO (vs := [_, _]) Tryz.func199 (fun S0 => ?_)
 repeat' first | refine ST ?_ | intro _ | apply And.intro
 refine gFORG 6 (dueIds h cabin).length (fun _ => []) [(0, fun q : House × H5 => hCl q.1 q.2)] (fun q => hOs q.1 q.2) (fun k q => HRep q.1 ∧ DueP q.1.parties ((dueIds h cabin).drop k) ∧ expireGo ((dueIds h cabin).drop k) q.1 = expireM h cabin) (h, ((a1, c1), (a2, c2), (a3, c3), (a4, c4), a5, c5)) (h0 := ⟨hR, due_start hR hc0, rfl⟩) (body := fun k q hk hi => ?_)
 obtain ⟨x, ⟨b1, d1⟩, ⟨b2, d2⟩, ⟨b3, d3⟩, ⟨b4, d4⟩, b5, d5⟩ := q
 obtain ⟨hR2, hD, hE⟩ : HRep x ∧ DueP x.parties ((dueIds h cabin).drop k) ∧ expireGo ((dueIds h cabin).drop k) x = expireM h cabin := hi
 by_cases hkl : k < (dueIds h cabin).length
 · have hdr := List.drop_eq_getElem_cons hkl
   rw [hdr] at hD hE
   have hat := due_at hR2 hD; have hal := atId_lt x.parties (dueIds h cabin)[k]
   have hmem : (x.parties[(atId x.parties (dueIds h cabin)[k]).toNat]'(by omega)) ∈ x.parties := List.getElem_mem _
   obtain ⟨n1, n2, n3⟩ := due_next hR2 hD (List.getElem?_eq_getElem (show (atId x.parties (dueIds h cabin)[k]).toNat < x.parties.length by omega)) rfl
   repeat' first | refine ST ?_ | intro _ | apply And.intro
   all_goals first | (exfalso; omega) | (refine gGBACK (_, ((_, _), (_, _), (_, _), (_, _), _, _)) hkl (h := ?_); exact ⟨n1, n2, n3.trans hE⟩)
 · rw [List.drop_eq_nil_of_le (by omega)] at hE
   repeat' first | refine ST ?_ | intro _ | apply And.intro
   all_goals first | (exfalso; omega) | exact hE
end SX
end Go.Proofs.YthnbaikmbgaddaaGreat
/- The reference's side: a cabin that there is; seats that move; jobs to do. -/
namespace Go.Proofs.YthnbaikmbgaddaaGreat
namespace SX
open Go Go.RowKit
set_option linter.unusedVariables false
set_option linter.unusedSimpArgs false
set_option maxRecDepth 10000
set_option maxHeartbeats 1000000
attribute [local irreducible] CD DN OPL AT QL QT CND RETG BKP HL HT HO slA slHo slP ptC pull pulls
instance s15Ok_c : HC 126 (∀ (W : World) (cs : List Value) (h : House) (cabin : Int), HsR W cs h → HouseSz h →Sp W [] 126 #[.agg cs.toArray, vi cabin] (RV (.bool (hasCab h cabin)))) := by
 refine ⟨fun W cs h cabin hh hsz => ?_⟩
 have hh1 := hh; obtain ⟨a1, c1, a2, c2, a3, c3, a4, c4, a5, c5, rfl, h1, h2, h3, h4, h5, h6, h7, h8, h9, h10⟩ := hh
 have hl := h8.len
 have hb : ∀ c ∈ h.cabins, c.wheel.spoke.flatten.length ≤ 1048576 := fun c hc => (hsz.2.2.2.2.2 c hc).2.2
 refine gENT (vs := [_, _]) Tryz.func126 ?_
 repeat' first | refine ST ?_ | intro _ | apply And.intro
 all_goals first | (simp [hasCab, *]; done) | (simp only [hasCab, ‹houseOk h = true›, Bool.true_and]; rfl)
instance sSeatsHold_c : HC 290 (∀ (W : World) (l : Ledger) (n : Int),Sp W [] 290 #[.agg (ledgerE l).toArray, vi n] (RT2 (RV (.agg (ledgerE (lHold l n)).toArray)) RBo)) := by
 refine ⟨fun W l n => gENT (vs := [_, _]) Tryz.func290 ?_⟩
 repeat' first | refine ST ?_ | intro _ | apply And.intro
 all_goals first | trivial | (rw [turn_hold]; rfl)
end SX
end Go.Proofs.YthnbaikmbgaddaaGreat
/- The reference's side: offers that run out in a copy; a chance. -/
namespace Go.Proofs.YthnbaikmbgaddaaGreat
namespace SX
open Go Go.RowKit
set_option linter.unusedVariables false
set_option linter.unusedSimpArgs false
set_option maxRecDepth 10000
set_option maxHeartbeats 1000000
attribute [local irreducible] CD DN OPL AT QL QT CND RETG BKP HL HT HO slA slHo slP ptC pull pulls
instance sExpire_c : HC 100 (∀ (W : World) (cs : List Value) (h : House) (cabin : Int), HsR W cs h → HRep h → 0 ≤ cabin → cabin < (h.cabins.length : Int) →Sp W [] 100 #[.agg cs.toArray, vi cabin] (RHs (expireM h cabin))) := by
 refine ⟨fun W cs h cabin hh hR hc0 hc1 => ?_⟩
 have hh1 := hh; obtain ⟨a1, c1, a2, c2, a3, c3, a4, c4, a5, c5, rfl, h1, h2, h3, h4, h5, h6, h7, h8, h9, h10⟩ := hh
 have hsz := hR.sz; have hcb := hasCab_mk hR hc0 hc1
 refine gENT (vs := [_, _]) Tryz.func100 ?_
 repeat' first | refine ST ?_ | intro _ | apply And.intro
 all_goals first | rfl | exact absurd (‹hasCab h cabin = false›.symm.trans hcb) (by decide)
end SX
end Go.Proofs.YthnbaikmbgaddaaGreat
/- The program's side: a chance. -/
namespace Go.Proofs.YthnbaikmbgaddaaGreat
namespace SX
open Go Go.RowKit
set_option linter.unusedVariables false
set_option linter.unusedSimpArgs false
set_option maxRecDepth 10000
set_option maxHeartbeats 1000000
attribute [local irreducible] CD DN OPL AT QL QT CND RETG BKP HL HT HO slA slHo slP ptC pull pulls
end SX
end Go.Proofs.YthnbaikmbgaddaaGreat
/- The program's side: requests that are right. -/
namespace Go.Proofs.YthnbaikmbgaddaaGreat
namespace SX
open Go Go.RowKit
set_option linter.unusedVariables false
set_option linter.unusedSimpArgs false
set_option maxRecDepth 10000
set_option maxHeartbeats 1000000
attribute [local irreducible] CD DN OPL AT QL QT CND RETG BKP HL HT HO slA slHo slP ptC pull pulls
instance hasInt_c : HC 189 (∀ (W : World) (list : List Int) (v : Value) (x : Int), Rs intL W v list →Sp W [] 189 #[v, vi x] (RV (.bool (list.any (fun e => e == x))))) := by
 refine ⟨fun W list v x ⟨a, c, e, hc, hr⟩ => ?_⟩
 subst e
 refine gENT (vs := [_, _]) Tryz.func189 ?_
 repeat' first | refine ST ?_ | intro _ | apply And.intro
 all_goals exact idxF_any (fun e : Int => e == x) list
end SX
end Go.Proofs.YthnbaikmbgaddaaGreat
/- The reference's side: seats that are freed; entries in and out of rows; the first that fits. -/
namespace Go.Proofs.YthnbaikmbgaddaaGreat
namespace SX
open Go Go.RowKit
set_option linter.unusedVariables false
set_option linter.unusedSimpArgs false
set_option maxRecDepth 10000
set_option maxHeartbeats 1000000
attribute [local irreducible] CD DN OPL AT QL QT CND RETG BKP HL HT HO slA slHo slP ptC pull pulls
theorem queueAt_lt9 : ∀ (l : List Entry) (id : Int) (k : Nat), queueAt l id k < (k : Int) + (l.length : Int)
  | [], id, k => by simp only [queueAt, List.length_nil]; omega
  | e :: es, id, k => by
    have := queueAt_lt9 es id (k + 1)
    simp only [queueAt, List.length_cons]; split <;> omega
instance sQueueCut_c : HC 251 (∀ (W : World) (list : List Entry) (v : Value) (id : Int), Rs entryL W v list → list.length ≤ 1048576 →Sp W [] 251 #[v, vi id] (RT2 (RO 142 entryL (queueCut list id)) RBo)) := by
 refine ⟨fun W list v id ⟨a, c, e, hc, hr⟩ hb => ?_⟩
 subst e; have hl := hr.len
 have hat := queueAt_lt9 list id 0
 refine gENT (vs := [_, _]) Tryz.func251 ?_
 repeat' first | refine ST ?_ | intro _ | apply And.intro
 all_goals first | trivial | (rw [queueCut, if_pos ‹_›]) | (rw [queueCut, if_neg ‹_›, wr_of (by omega) (by omega), Int.toNat_add (by omega) (by omega)]; simp [cutAt]) | (rw [queueCut, if_neg ‹_›, wrap_of (by omega) (by omega), Int.toNat_add (by omega) (by omega)]; simp [cutAt])
end SX
end Go.Proofs.YthnbaikmbgaddaaGreat
/- The reference's side: the first entry that fits. -/
namespace Go.Proofs.YthnbaikmbgaddaaGreat
namespace SX
open Go Go.RowKit
set_option linter.unusedVariables false
set_option linter.unusedSimpArgs false
set_option maxRecDepth 10000
set_option maxHeartbeats 1000000
attribute [local irreducible] CD DN OPL AT QL QT CND RETG BKP HL HT HO slA slHo slP ptC pull pulls
instance sFirstFit_c : HC 341 (∀ (W : World) (list : List Entry) (v : Value) (free : Int) (skip : List Int) (u : Value), Rs entryL W v list → Rs intL W u skip →Sp W [] 341 #[v, vi free, u] (RV (vi (firstFit list free skip)))) := by
 refine ⟨fun W list v free skip u ⟨a, c, e, hc, hr⟩ ⟨a2, c2, e2, hc2, hr2⟩ => ?_⟩
 subst e e2; have hl := hr.len
 refine gENT (vs := [_, _, _]) Tryz.func341 ?_
 repeat' first | refine ST ?_ | intro _ | apply And.intro
 refine gFOR 7 list.length (fun k => firstFit list free skip = idxF (fun e : Entry => decide (e.size ≤ free) && !skip.any (fun x => x == e.id)) (list.drop k) k) rfl fun k hk hv => ?_
 repeat' first | refine ST ?_ | intro _ | apply And.intro
 all_goals (rw [hv]; grind [idxF, List.drop_eq_getElem_cons])
end SX
end Go.Proofs.YthnbaikmbgaddaaGreat
/- The reference's side: who is offered next. -/
namespace Go.Proofs.YthnbaikmbgaddaaGreat
namespace SX
open Go Go.RowKit
set_option linter.unusedVariables false
set_option linter.unusedSimpArgs false
set_option maxRecDepth 10000
set_option maxHeartbeats 1000000
attribute [local irreducible] CD DN OPL AT QL QT CND RETG BKP HL HT HO slA slHo slP ptC pull pulls
instance s15Next_c : HC 289 (∀ (W : World) (cs : List Value) (h : House) (cabin : Int), HsR W cs h → HouseSz h → 0 ≤ cabin → cabin < (h.cabins.length : Int) →Sp W [] 289 #[.agg cs.toArray, vi cabin] (RV (vi (nextM h cabin)))) := by
 refine ⟨fun W cs h cabin hh hsz hc0 hc1 => ?_⟩
 obtain ⟨a1, c1, a2, c2, a3, c3, a4, c4, a5, c5, rfl, h1, h2, h3, h4, h5, h6, h7, h8, h9, h10⟩ := hh
 have hk : cabin.toNat < h.cabins.length := by omega
 have hx := List.getElem?_eq_getElem hk
 obtain ⟨hs1, hs2, hs3⟩ := hsz.2.2.2.2.2 _ (List.getElem_mem hk)
 have hp9 := hsz.2.1
 have hff := fun skip => (firstFit_lt (h.cabins[cabin.toNat]).row (h.cabins[cabin.toNat]).seats.free skip).1
 refine gENT (vs := [_, _]) Tryz.func289 ?_
 repeat' first | refine ST ?_ | intro _ | apply And.intro
 refine gFORO 6 h.parties.length 5 (fun _ : Unit => []) (fun k _ xs => xs.length ≤ k ∧ skipGo h.now h.parties = xs ++ skipGo h.now (h.parties.drop k)) () (h0 := ⟨by simp, rfl⟩) (body := fun k _ a c9 xs hk ⟨hl, hv⟩ => ?_)
 have hfx := hff xs
 repeat' first | refine ST ?_ | intro _ | apply And.intro
 all_goals first
  | exact LEN
  | (rw [hv, List.drop_eq_getElem_cons (by omega), skipGo, if_pos ‹_›]; simp; done)
  | (rw [hv, List.drop_eq_getElem_cons (by omega), skipGo, if_neg (by simp [*])]; done)
  | (have hE : skipGo h.now h.parties = xs := by rw [hv, List.drop_eq_nil_of_le (by omega)]; simp [skipGo]
     simp only [nextM, hx, hE]; simp [*]; done)
  | (have hE : skipGo h.now h.parties = xs := by rw [hv, List.drop_eq_nil_of_le (by omega)]; simp [skipGo]
     subst hE
     simp only [nextM, hx]; rw [if_neg ‹_›, List.getElem?_eq_getElem]; done)
 trace_state
end SX
end Go.Proofs.YthnbaikmbgaddaaGreat
/- The program's side: who is offered next. -/
namespace Go.Proofs.YthnbaikmbgaddaaGreat
namespace SX
open Go Go.RowKit
set_option linter.unusedVariables false
set_option linter.unusedSimpArgs false
set_option maxRecDepth 10000
set_option maxHeartbeats 1000000
attribute [local irreducible] CD DN OPL AT QL QT CND RETG BKP HL HT HO slA slHo slP ptC pull pulls
instance iFit1_c : HC 343 (∀ (W : World) (b d : Nat) (free : Int) (skip : List Int) (u : Value) (e : Entry), ElemAt W (some ⟨b, 0, none⟩) 0 [vi free] → ElemAt W (some ⟨d, 0, none⟩) 0 [u] → Rs intL W u skip →Sp W [] 343 #[.agg (entryE e).toArray, .pointer (some ⟨b, 0, none⟩), .pointer (some ⟨d, 0, none⟩)] (RV (.bool (fitE free skip e)))) := by
 refine ⟨fun W b d free skip u e hb hd hs => ?_⟩
 obtain ⟨a, c, rfl, hc, hr⟩ := hs
 refine gENT (vs := [_, _, _]) Tryz.func343 (cVP (d := 1) rfl (cVP (d := 2) rfl ?_))
 repeat' first | refine ST ?_ | refine ST2 ?_ | intro _ | apply And.intro
 all_goals first | (simp [fitE, *]; done) | grind [fitE] | trace_state
instance iFitIx_c : HC 342 (∀ (W : World) (list : List Entry) (v : Value) (b d : Nat) (free : Int) (skip : List Int) (u : Value), Rs entryL W v list → ElemAt W (some ⟨b, 0, none⟩) 0 [vi free] → ElemAt W (some ⟨d, 0, none⟩) 0 [u] → Rs intL W u skip →Sp W [] 342 #[v, .func (.func 343) #[] #[.pointer (some ⟨b, 0, none⟩), .pointer (some ⟨d, 0, none⟩)]] (RV (vi (idxF (fitE free skip) list 0)))) := by
 refine ⟨fun W list v b d free skip u ⟨a, c, e, hc, hr⟩ hb hd hs => ?_⟩
 subst e; have hl := hr.len
 refine gENT (vs := [_, _]) Tryz.func342 ?_
 repeat' first | refine ST ?_ | refine ST2 ?_ | intro _ | apply And.intro
 refine gFOR 8 list.length (fun k => idxF (fitE free skip) list 0 = idxF (fitE free skip) (list.drop k) k) rfl fun k hk hv => ?_
 repeat' first | refine ST ?_ | refine ST2 ?_ | intro _ | apply And.intro
 · refine aCV (hcon := by intro c w hw; exact c w b d free skip u list[k] (ElemAt.fr hb hw.fr) (ElemAt.fr hd hw.fr) (hs.fr hw.fr)) (k := ?_)
   repeat' first | refine ST ?_ | refine ST2 ?_ | intro _ | apply And.intro
   all_goals grind [idxF, List.drop_eq_getElem_cons]
 all_goals grind [idxF]
instance iFirstFit_c : HC 292 (∀ (W : World) (list : List Entry) (v : Value) (free : Int) (skip : List Int) (u : Value), Rs entryL W v list → Rs intL W u skip →Sp W [] 292 #[v, vi free, u] (RV (vi (firstFit list free skip)))) := by
 refine ⟨fun W list v free skip u hl hs => ?_⟩
 have hl1 := hl; have hs1 := hs
 obtain ⟨a, c, rfl, hc, hr⟩ := hl; obtain ⟨a2, c2, rfl, hc2, hr2⟩ := hs
 refine gENT (vs := [_, _, _]) Tryz.func292 ?_
 repeat' first | refine ST ?_ | refine ST2 ?_ | intro _ | apply And.intro
 refine tOP fun bs hb => ?_
 obtain ⟨b1, b2, rfl⟩ := len2 hb
 simp only [expT, expS, expC, List.getElem?_cons_zero, List.getElem?_cons_succ, List.cons_append, List.nil_append]
 repeat' first | refine ST ?_ | refine ST2 ?_ | intro _ | apply And.intro
 refine aCV (hcon := by intro c w hw; exact c w list _ b1 b2 free skip _ (hl1.fr hw.fr) (ptC_elem (hw.own 0 rfl)) (ptC_elem (hw.own 1 rfl)) (hs1.fr hw.fr)) (k := ?_)
 repeat' first | refine ST ?_ | refine ST2 ?_ | intro _ | apply And.intro
 all_goals first | rfl | trace_state
instance iNextOffer_c : HC 209 (∀ (W : World) (cs : List Value) (h : House) (cabin : Int), HsR W cs h → HouseSz h →Sp W [] 209 #[.agg cs.toArray, vi cabin] (RV (vi (nextOffer h cabin)))) := by
 refine ⟨fun W cs h cabin hh hsz => ?_⟩
 have hh1 := hh; obtain ⟨a1, c1, a2, c2, a3, c3, a4, c4, a5, c5, rfl, h1, h2, h3, h4, h5, h6, h7, h8, h9, h10⟩ := hh
 have hp9 := hsz.2.1
 refine gENT (vs := [_, _]) Tryz.func209 ?_
 by_cases hb : hasCab h cabin = true
 · obtain ⟨hc0, hc1⟩ := hasCab_in hb
   have hx := List.getElem?_eq_getElem (show cabin.toNat < h.cabins.length by omega)
   have hff := fun skip => (firstFit_lt (h.cabins[cabin.toNat]'(by omega)).row (h.cabins[cabin.toNat]'(by omega)).seats.free skip).1
   repeat' first | refine ST ?_ | intro _ | apply And.intro
   · exact absurd (‹hasCab h cabin = false›.symm.trans hb) (by decide)
   refine gNILN 3 intL ?_
   refine gFORO 17 h.parties.length 5 (fun _ : Unit => []) (fun k _ xs => xs.length ≤ k ∧ skipGo h.now h.parties = xs ++ skipGo h.now (h.parties.drop k)) () (h0 := ⟨by simp, rfl⟩) (body := fun k _ a c9 xs hk ⟨hl, hv⟩ => ?_)
   have hfx := hff xs
   repeat' first | refine ST ?_ | intro _ | apply And.intro
   all_goals first
    | exact LEN
    | (rw [hv, List.drop_eq_getElem_cons (by omega), skipGo, if_pos ‹_›]; simp; done)
    | (rw [hv, List.drop_eq_getElem_cons (by omega), skipGo, if_neg (by simp [*])]; done)
    | (have hE : skipGo h.now h.parties = xs := by rw [hv, List.drop_eq_nil_of_le (by omega)]; simp [skipGo]
       subst hE
       rw [nextOffer_neg hb hx ‹_›]; done)
    | (have hE : skipGo h.now h.parties = xs := by rw [hv, List.drop_eq_nil_of_le (by omega)]; simp [skipGo]
       subst hE
       rw [nextOffer_at hb hx ‹_› (List.getElem?_eq_getElem (by omega))]; done)
    | trace_state
 · repeat' first | refine ST ?_ | intro _ | apply And.intro
   all_goals first | exact absurd ‹hasCab h cabin = true› hb | (rw [nextOffer_no (by simpa using hb)]; done) | trace_state
end SX
end Go.Proofs.YthnbaikmbgaddaaGreat
