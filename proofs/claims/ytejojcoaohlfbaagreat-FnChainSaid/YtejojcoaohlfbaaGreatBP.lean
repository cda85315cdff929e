/- Texts of this claim, put together by program. -/
import Derived.Test.YtejojcoaohlfbaaGreatBL
import Derived.Test.YtejojcoaohlfbaaGreatAI
import Derived.Test.YtejojcoaohlfbaaGreatAP
namespace Go.Proofs.YtejojcoaohlfbaaGreat
namespace SX
open Go Go.RowKit
set_option linter.unusedVariables false
set_option linter.unusedSimpArgs false
set_option maxRecDepth 10000
set_option maxHeartbeats 1000000
attribute [local irreducible] CD DN OPL AT QL QT CND RETG BKP HL HT HO slA slHo slP ptC pull pulls
theorem decl_fails {h : House} {p : Party} (hp : HRep h) (hm : p ∈ h.parties) (hs : p.state = 2) : declM h p = failsM h p := by
 have hR2 := fails_hp hp hm hs
 unfold declM failsM at *
 split
 · rename_i hb
   rw [if_pos hb] at hR2
   have g9 := hp.pr hm; have gc9 := g9.cab; have gl9 := hp.cabs
   have hk : p.cabin.toNat < h.cabins.length := by omega
   have hx := List.getElem?_eq_getElem hk
   rw [modC_of _ hx] at hR2
   have h2 := (agrees_row (houseP_iff.2 hR2) (k := p.cabin.toNat) (List.getElem?_set_self hk)).1
   have h1 := (agrees_row (houseP_iff.2 hp) hx).1
   have h3 : rowPutW (entryOf h.rules (failedP h.rules p h.now) h.now) (dropC p h.cabins[p.cabin.toNat]) = rowPut (entryOf h.rules (failedP h.rules p h.now) h.now) (dropC p h.cabins[p.cabin.toNat]) := by
    have h4 := (queuePut_t (queueOk_t h1) (queueOk_t h2)).1
    show Cabin.mk _ _ _ = Cabin.mk _ _ _
    exact congrArg (fun r => Cabin.mk _ r _) h4
   rw [modC_of _ hx, modC_of _ hx, h3]
 · rfl
instance iExpire_c : HC 101 (∀ (W : World) (cs : List Value) (h : House) (cabin : Int), HsR W cs h → HRep h → 0 ≤ cabin → cabin < (h.cabins.length : Int) →Sp W [] 101 #[.agg cs.toArray, vi cabin] (RHs (expireM h cabin))) := by
 refine ⟨fun W cs h cabin hh hR hc0 hc1 => ?_⟩
 have hh1 := hh; obtain ⟨a1, c1, a2, c2, a3, c3, a4, c4, a5, c5, rfl, h1, h2, h3, h4, h5, h6, h7, h8, h9, h10⟩ := hh
 have hsz := hR.sz; have hdl := dueIds_len h cabin
 refine gENT (vs := [_, _]) Tryz.func101 ?_
 repeat' first | refine ST ?_ | refine ST2 ?_ | intro _ | apply And.intro
 rename_i xh xd
 refine gFORG 14 (dueIds h cabin).length (fun _ => []) [(2, fun q : House × H5 => hCl q.1 q.2)] (fun q => hOs q.1 q.2) (fun k q => HRep q.1 ∧ DueP q.1.parties ((dueIds h cabin).drop k) ∧ expireGo ((dueIds h cabin).drop k) q.1 = expireM h cabin) (h, xh) (h0 := ⟨hR, due_start hR hc0, rfl⟩) (body := fun k q hk hi => ?_)
 obtain ⟨x, ⟨b1, d1⟩, ⟨b2, d2⟩, ⟨b3, d3⟩, ⟨b4, d4⟩, b5, d5⟩ := q
 obtain ⟨hR2, hD, hE⟩ : HRep x ∧ DueP x.parties ((dueIds h cabin).drop k) ∧ expireGo ((dueIds h cabin).drop k) x = expireM h cabin := hi
 by_cases hkl : k < (dueIds h cabin).length
 · have hdr := List.drop_eq_getElem_cons hkl
   rw [hdr] at hD hE
   have hsz2 := hR2.sz
   have hat := due_at hR2 hD; have hal := atId_lt x.parties (dueIds h cabin)[k]
   have hat0 : 0 ≤ atId x.parties (dueIds h cabin)[k] := by omega
   have hpx : x.parties[(atId x.parties (dueIds h cabin)[k]).toNat]? = some (x.parties[(atId x.parties (dueIds h cabin)[k]).toNat]'(by omega)) := List.getElem?_eq_getElem (by omega)
   have hmem : (x.parties[(atId x.parties (dueIds h cabin)[k]).toNat]'(by omega)) ∈ x.parties := List.getElem_mem _
   have hst := due_state hR2 hD hpx
   have hid : (x.parties[(atId x.parties (dueIds h cabin)[k]).toNat]'(by omega)).id = (dueIds h cabin)[k] := by
    have h9 := (due_step hR2 hD).2.1
    rw [partyOf_of hpx] at h9; exact h9
   have g9 := hR2.pr hmem; have gc9 := g9.cab; have gf9 := g9.frm; have gl9 := hR2.cabs
   have hcc0 : 0 ≤ (x.parties[(atId x.parties (dueIds h cabin)[k]).toNat]'(by omega)).cabin := by omega
   have hcc1 : (x.parties[(atId x.parties (dueIds h cabin)[k]).toNat]'(by omega)).cabin < (x.cabins.length : Int) := by omega
   have hff0 : -1 ≤ (x.parties[(atId x.parties (dueIds h cabin)[k]).toNat]'(by omega)).from' := by omega
   have hff1 : (x.parties[(atId x.parties (dueIds h cabin)[k]).toNat]'(by omega)).from' < (x.cabins.length : Int) := by omega
   obtain ⟨n1, n2, n3⟩ := due_next hR2 hD hpx (decl_fails hR2 hmem hst)
   repeat' first | refine ST ?_ | refine ST2 ?_ | intro _ | apply And.intro
   all_goals first | (exfalso; omega) | (refine gGBACK (_, ((_, _), (_, _), (_, _), (_, _), _, _)) hkl (h := ?_); exact ⟨n1, n2, n3.trans hE⟩)
 · rw [List.drop_eq_nil_of_le (by omega)] at hE
   repeat' first | refine ST ?_ | refine ST2 ?_ | intro _ | apply And.intro
   all_goals first | (exfalso; omega) | exact hE | trace_state
instance iTodoPut_c : HC 147 (∀ (W : World) (list : List Int) (v : Value) (x : Int), Rs intL W v list → list.length ≤ 1048576 →Sp W [] 147 #[v, vi x] (RO 3 intL (todoPut list x))) := by
 refine ⟨fun W list v x ⟨a, c, e, hc, hr⟩ hb => ?_⟩
 subst e
 refine gENT (vs := [_, _]) Tryz.func147 ?_
 repeat' first | refine ST ?_ | intro _ | apply And.intro
 all_goals simp [todoPut, *]
instance iUsed_c : HC 288 (∀ (W : World) (n : Int),Sp W [] 288 #[vi n] (RV (.bool (usedB n)))) := by
 refine ⟨fun W n => gENT (vs := [_]) Tryz.func288 ?_⟩
 repeat' first | refine ST ?_ | intro _ | apply And.intro
 all_goals rfl
instance iReqOk_c : HC 190 (∀ (W : World) (q : Req),Sp W [] 190 #[.agg (reqE q).toArray] (RV (.bool (reqOk q)))) := by
 refine ⟨fun W q => gENT (vs := [_]) Tryz.func190 ?_⟩
 repeat' first | refine ST ?_ | intro _ | apply And.intro
 all_goals first | (simp_all [reqOk, reqEq]; done) | grind [reqOk, reqEq]
instance iLoose_c : HC 191 (∀ (W : World) (cs : List Value) (h : House) (cabin : Int), HsR W cs h → 0 ≤ cabin → cabin < (h.cabins.length : Int) →Sp W [] 191 #[.agg cs.toArray, vi cabin] (RV (vi (looseAt h cabin)))) := by
 refine ⟨fun W cs h cabin hh hc0 hc1 => ?_⟩
 have hh1 := hh; obtain ⟨a1, c1, a2, c2, a3, c3, a4, c4, a5, c5, rfl, h1, h2, h3, h4, h5, h6, h7, h8, h9, h10⟩ := hh
 have hk : cabin.toNat < h.cabins.length := by omega
 have hx := List.getElem?_eq_getElem hk
 refine gENT (vs := [_, _]) Tryz.func191 ?_
 repeat' first | refine ST ?_ | intro _ | apply And.intro
 all_goals first | (simp only [looseAt, hx]; done) | (simp only [looseAt, hx]; rfl)
instance iVerdict_c : HC 90 (∀ (W : World) (cs : List Value) (h : House) (q : Req), HsR W cs h → HouseSz h →Sp W [] 90 #[.agg cs.toArray, .agg (reqE q).toArray] (RV (vi (verdict h q)))) := by
 refine ⟨fun W cs h q hh hsz => ?_⟩
 have hh1 := hh; obtain ⟨a1, c1, a2, c2, a3, c3, a4, c4, a5, c5, rfl, h1, h2, h3, h4, h5, h6, h7, h8, h9, h10⟩ := hh
 have hl := h8.len; have hp9 := hsz.2.1
 refine gENT (vs := [_, _]) Tryz.func90 ?_
 by_cases hho : houseOk h = true
 · have hR := houseP_iff.1 (houseP_of hho)
   by_cases hro : reqOk q = true
   · obtain ⟨r1, r2, r3, r4, r5, r6⟩ := reqOk_form hro
     have hjb := (JobsP.iff.1 hR.jobs).2.2.2
     have hal := atId_lt h.parties q.id; have hnw := hR.now
     have hl1 : wr ((h.cabins.length : Int) - 1) = (h.cabins.length : Int) - 1 := wr_of (by omega) (by omega)
     have hif : ∀ x : Int, inB x (-1) (wr ((h.cabins.length : Int) - 1)) = true → x < (h.cabins.length : Int) := fun x hx => by
      simp only [inB, hl1, Bool.and_eq_true, decide_eq_true_eq] at hx; omega
     have hic : ∀ x : Int, inB x 0 (wr ((h.cabins.length : Int) - 1)) = true → x < (h.cabins.length : Int) := fun x hx => by
      simp only [inB, hl1, Bool.and_eq_true, decide_eq_true_eq] at hx; omega
     repeat' first | refine ST ?_ | intro _ | apply And.intro
     all_goals first
      | (exfalso; simp_all; done)
      | (clear hif hic; simp_all [verdict, vKind]; done)
      | (clear hif hic; simp_all [verdict, vKind, vJoin, inB]; done)
      | (clear hif hic; simp_all [verdict, vKind, vJoin, inB]; omega)
      | (clear hif hic; simp_all [verdict, vKind, vFree, inB]; done)
      | (clear hif hic; simp_all [verdict, vKind, vFree, inB]; omega)
      | (clear hif hic; simp_all [verdict, vKind]; omega)
      | (clear hif hic; simp_all [verdict, vKind, vAns]; done)
      | (clear hif hic; simp_all [verdict, vKind, vPick]; done)
      | (have hpo : partyOf h.parties q.id = h.parties[(atId h.parties q.id).toNat]'(by omega) := partyOf_of (List.getElem?_eq_getElem (by omega))
         clear hif hic; simp_all [verdict, vKind, vAns, dueB]; done)
      | (have hj9 : h.jobs[q.id.toNat]? = some (h.jobs[q.id.toNat]'(by omega)) := List.getElem?_eq_getElem (by omega)
         have hj8 : jobAt h q.id = h.jobs[q.id.toNat]'(by omega) := by simp only [jobAt, hj9]
         have hj7 := hR.jobRng (List.getElem_mem (show q.id.toNat < h.jobs.length by omega))
         clear hif hic; simp_all [verdict, vKind, vPick]; done)
      | (have hj9 : h.jobs[q.id.toNat]? = some (h.jobs[q.id.toNat]'(by omega)) := List.getElem?_eq_getElem (by omega)
         have hj8 : jobAt h q.id = h.jobs[q.id.toNat]'(by omega) := by simp only [jobAt, hj9]
         have hj7 := hR.jobRng (List.getElem_mem (show q.id.toNat < h.jobs.length by omega))
         clear hif hic; simp_all [verdict, vKind, vPick]; omega)
      | trace_state
   · repeat' first | refine ST ?_ | intro _ | apply And.intro
     all_goals first | (simp_all [verdict]; done) | trace_state
 · repeat' first | refine ST ?_ | intro _ | apply And.intro
   all_goals first | (simp_all [verdict]; done) | trace_state
end SX
end Go.Proofs.YtejojcoaohlfbaaGreat
