/- Texts of this claim, put together by program. -/
import Derived.Test.YtapbooddmdkgjaaGreatAZ
import Derived.Test.YtapbooddmdkgjaaGreatSut
/- The reference's side: a pick. -/
namespace Go.Proofs.YtapbooddmdkgjaaGreat
namespace SX
open Go Go.RowKit
set_option linter.unusedVariables false
set_option linter.unusedSimpArgs false
set_option maxRecDepth 10000
set_option maxHeartbeats 1000000
attribute [local irreducible] CD DN OPL AT QL QT CND RETG BKP HL HT HO slA slHo slP ptC pull pulls
set_option maxHeartbeats 8000000
theorem sPick_take (W : World) (cs : List Value) (h : House) (who : Int) (hh : HsR W cs h) (hsz : HouseSz h) (hv : verdict h ⟨7, who, 0, 0, 0, 0⟩ = 0) (hj : jobAt h who < 0) : Sp W [] 132 #[.agg cs.toArray, vi who] (RT3 (RHs (doM h ⟨7, who, 0, 0, 0, 0⟩)) (RV (vi (verdict h ⟨7, who, 0, 0, 0, 0⟩))) (RO 3 intL (idsM h ⟨7, who, 0, 0, 0, 0⟩))) := by
 have hh1 := hh; obtain ⟨a1, c1, a2, c2, a3, c3, a4, c4, a5, c5, rfl, h1, h2, h3, h4, h5, h6, h7, h8, h9, h10⟩ := hh
 have ht9 := hsz.2.2.2.1
 refine gENT (vs := [_, _]) Tryz.func132 ?_
 obtain ⟨p1, p2, p3, p4, p5, p6, p7, p8, p9, p10⟩ := pick_facts hv
 have hje : h.jobs[who.toNat]'(by omega) = jobAt h who := (List.getElem?_eq_some_iff.1 p6).2
 have htl : 0 < h.todo.length := by omega
 have q9 := p9.trans (congrArg Prod.fst (pickM_take hj htl)); have q10 := p10.trans (congrArg Prod.snd (pickM_take hj htl))
 rw [← hje] at hj p7 p8
 have hw9 : who.toNat < h.jobs.length := by omega
 repeat' first | refine ST ?_ | refine ST2 ?_ | refine ST3 ?_ | intro _ | apply And.intro
 all_goals first | exact hv.symm | (refine Eq.trans ?_ q9.symm; rfl) | (refine Eq.trans ?_ q10.symm; rfl) | exact absurd hv ‹verdict h _ ≠ 0› | rfl | (exfalso; omega) | trace_state
theorem sPick_scan (W : World) (cs : List Value) (h : House) (who : Int) (hh : HsR W cs h) (hsz : HouseSz h) (hv : verdict h ⟨7, who, 0, 0, 0, 0⟩ = 0) (hj : ¬ jobAt h who < 0) : Sp W [] 132 #[.agg cs.toArray, vi who] (RT3 (RHs (doM h ⟨7, who, 0, 0, 0, 0⟩)) (RV (vi (verdict h ⟨7, who, 0, 0, 0, 0⟩))) (RO 3 intL (idsM h ⟨7, who, 0, 0, 0, 0⟩))) := by
 have hh1 := hh; obtain ⟨a1, c1, a2, c2, a3, c3, a4, c4, a5, c5, rfl, h1, h2, h3, h4, h5, h6, h7, h8, h9, h10⟩ := hh
 have ht9 := hsz.2.2.2.1
 refine gENT (vs := [_, _]) Tryz.func132 ?_
 obtain ⟨p1, p2, p3, p4, p5, p6, p7, p8, p9, p10⟩ := pick_facts hv
 have hje : h.jobs[who.toNat]'(by omega) = jobAt h who := (List.getElem?_eq_some_iff.1 p6).2
 have q9 := p9.trans (congrArg Prod.fst (pickM_scan9 hje (by rw [hje]; exact hj))); have q10 := p10.trans (congrArg Prod.snd (pickM_scan9 hje (by rw [hje]; exact hj)))
 obtain ⟨s1, s2, s3, s4, s5, s6⟩ := scan_hp p1 (show 0 ≤ jobAt h who by omega) p8
 have hjl : who < ((scan h (jobAt h who)).1.jobs.length : Int) := by rw [s6]; omega
 rw [← hje] at hj p7 p8 hjl
 repeat' first | refine ST ?_ | refine ST2 ?_ | refine ST3 ?_ | intro _ | apply And.intro
 all_goals first | exact hv.symm | (refine Eq.trans ?_ q9.symm; rfl) | (refine Eq.trans ?_ q10.symm; rfl) | exact absurd hv ‹verdict h _ ≠ 0› | rfl | (exfalso; omega) | trace_state
theorem sPick_no (W : World) (cs : List Value) (h : House) (who : Int) (hh : HsR W cs h) (hsz : HouseSz h) (hv : ¬ verdict h ⟨7, who, 0, 0, 0, 0⟩ = 0) : Sp W [] 132 #[.agg cs.toArray, vi who] (RT3 (RHs (doM h ⟨7, who, 0, 0, 0, 0⟩)) (RV (vi (verdict h ⟨7, who, 0, 0, 0, 0⟩))) (RO 3 intL (idsM h ⟨7, who, 0, 0, 0, 0⟩))) := by
 have hh1 := hh; obtain ⟨a1, c1, a2, c2, a3, c3, a4, c4, a5, c5, rfl, h1, h2, h3, h4, h5, h6, h7, h8, h9, h10⟩ := hh
 have ht9 := hsz.2.2.2.1
 refine gENT (vs := [_, _]) Tryz.func132 ?_
 have hd : doM h ⟨7, who, 0, 0, 0, 0⟩ = h := by rw [doM, if_neg hv]
 have hi : idsM h ⟨7, who, 0, 0, 0, 0⟩ = [] := by rw [idsM, if_neg (fun h9 => hv h9.1)]
 repeat' first | refine ST ?_ | refine ST2 ?_ | refine ST3 ?_ | intro _ | apply And.intro
 all_goals first | exact absurd ‹_› hv | exact hd.symm | exact hi.symm | rfl | trace_state
instance sPick_c : HC 132 (∀ (W : World) (cs : List Value) (h : House) (who : Int), HsR W cs h → HouseSz h →Sp W [] 132 #[.agg cs.toArray, vi who] (RT3 (RHs (doM h ⟨7, who, 0, 0, 0, 0⟩)) (RV (vi (verdict h ⟨7, who, 0, 0, 0, 0⟩))) (RO 3 intL (idsM h ⟨7, who, 0, 0, 0, 0⟩)))) := by
 refine ⟨fun W cs h who hh hsz => ?_⟩
 by_cases hv : verdict h ⟨7, who, 0, 0, 0, 0⟩ = 0
 · by_cases hj : jobAt h who < 0
   · exact sPick_take W cs h who hh hsz hv hj
   · exact sPick_scan W cs h who hh hsz hv hj
 · exact sPick_no W cs h who hh hsz hv
end SX
end Go.Proofs.YtapbooddmdkgjaaGreat
/- The reference's side: a house that is drained. -/
namespace Go.Proofs.YtapbooddmdkgjaaGreat
namespace SX
open Go Go.RowKit
set_option linter.unusedVariables false
set_option linter.unusedSimpArgs false
set_option maxRecDepth 10000
set_option maxHeartbeats 1000000
attribute [local irreducible] CD DN OPL AT QL QT CND RETG BKP HL HT HO slA slHo slP ptC pull pulls
set_option maxHeartbeats 8000000
instance sDrained_c : HC 117 (∀ (W : World) (cs : List Value) (h : House), HsR W cs h → HouseSz h →Sp W [] 117 #[.agg cs.toArray] (RHs (drained h))) := by
 refine ⟨fun W cs h hh hsz => ?_⟩
 have hh1 := hh; obtain ⟨a1, c1, a2, c2, a3, c3, a4, c4, a5, c5, rfl, h1, h2, h3, h4, h5, h6, h7, h8, h9, h10⟩ := hh
 have hsb : ∀ c ∈ h.cabins, c.wheel.spoke.flatten.length ≤ 1048576 := fun c hc => (hsz.2.2.2.2.2 c hc).2.2
 refine gENT (vs := [_]) Tryz.func117 ?_
 by_cases hok : houseOk h = true
 · have hR := houseP_iff.1 (houseP_of hok)
   have hdr : drained h = drainGo 60 0 h := by unfold drained; rw [if_pos hok]
   have hcr := (rr_of hR.rules).crew
   repeat' first | refine ST ?_ | refine ST2 ?_ | refine ST3 ?_ | intro _ | apply And.intro
   · exact absurd (‹houseOk h = false›.symm.trans hok) (by decide)
   rename_i q1 hx0
   refine gFORG 4 60 (fun _ => []) [(2, fun q : House × H5 => hCl q.1 q.2)] (fun q => hOs q.1 q.2) (fun k q => HRep q.1 ∧ q.1.rules = h.rules ∧ drained h = drainGo (60 - k) k q.1) (h, q1) (h0 := ⟨hR, rfl, hdr⟩) (body := fun k q hk hi => ?_)
   obtain ⟨x, ⟨b1, d1⟩, ⟨b2, d2⟩, ⟨b3, d3⟩, ⟨b4, d4⟩, b5, d5⟩ := q
   obtain ⟨i1, i2, i3⟩ : HRep x ∧ x.rules = h.rules ∧ drained h = drainGo (60 - k) k x := hi
   have hsx := i1.sz
   have hcx : 1 ≤ x.rules.crew := by rw [i2]; omega
   have hcy : 1 ≤ ((x, ((b1, d1), (b2, d2), (b3, d3), (b4, d4), b5, d5)) : House × H5).1.rules.crew := hcx
   by_cases hkl : k < 60
   · have e60 : 60 - k = (60 - (k + 1)) + 1 := by omega
     rw [e60] at i3
     unfold drainGo at i3
     by_cases hid : idleB x = true
     · rw [if_pos hid] at i3
       repeat' first | refine ST ?_ | refine ST2 ?_ | refine ST3 ?_ | intro _ | apply And.intro
       all_goals first | exact i3.symm | exact absurd (‹idleB x = false›.symm.trans hid) (by decide) | (exfalso; omega) | trace_state
     · rw [if_neg hid] at i3
       repeat' first | refine ST ?_ | refine ST2 ?_ | refine ST3 ?_ | intro _ | apply And.intro
       all_goals first
        | (exfalso; omega)
        | exact absurd ‹idleB x = true› hid
        | (refine gGBACK (doM x ⟨7, Int.tmod k x.rules.crew, 0, 0, 0, 0⟩, _) hkl (hLx := by rfl) (h := ?_)
           exact ⟨do_hp i1, (pick_rules _ _).trans i2, i3⟩)
        | trace_state
   · have e0 : 60 - k = 0 := by omega
     rw [e0] at i3
     repeat' first | refine ST ?_ | refine ST2 ?_ | refine ST3 ?_ | intro _ | apply And.intro
     all_goals first | (exfalso; omega) | exact i3.symm | trace_state
 · have hdr : drained h = h := by unfold drained; rw [if_neg hok]
   rw [hdr]
   repeat' first | refine ST ?_ | refine ST2 ?_ | refine ST3 ?_ | intro _ | apply And.intro
   all_goals first | exact absurd ‹houseOk h = true› hok | rfl | trace_state
end SX
end Go.Proofs.YtapbooddmdkgjaaGreat
