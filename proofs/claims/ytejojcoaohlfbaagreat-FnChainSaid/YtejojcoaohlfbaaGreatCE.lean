/- Rounds; a house that settles. -/
import Derived.Test.YtejojcoaohlfbaaGreatCD
import Derived.Test.YtejojcoaohlfbaaGreatJAZ
import Derived.Test.YtejojcoaohlfbaaGreatDC
import Derived.Test.YtejojcoaohlfbaaGreatDB
namespace Go.Proofs.YtejojcoaohlfbaaGreat
namespace SX
open Go Go.RowKit
set_option linter.unusedVariables false
set_option linter.unusedSimpArgs false
set_option maxRecDepth 10000
set_option maxHeartbeats 1000000
attribute [local irreducible] CD DN OPL AT QL QT CND RETG BKP HL HT HO slA slHo slP ptC pull pulls
instance zdL : HC 67 (∀ (W : World) (cs : List Value) (h : House), HsR W cs h → HouseSz h →Sp W [] 67 #[.agg cs.toArray] (RV (.bool (houseOk h && idleB h)))) := by
 refine ⟨fun W cs h hh hsz => ?_⟩
 have hh1 := hh; obtain ⟨a1, c1, a2, c2, a3, c3, a4, c4, a5, c5, rfl, h1, h2, h3, h4, h5, h6, h7, h8, h9, h10⟩ := hh
 have hl := h10.len
 refine gENT (vs := [_]) Tryz.func67 ?_
 by_cases hok : houseOk h = true
 · have hR := houseP_iff.1 (houseP_of hok)
   repeat' first | refine ST ?_ | intro _ | apply And.intro
   all_goals first | exact absurd (‹houseOk h = false›.symm.trans hok) (by decide) | (have h9 : decide (h.todo.length = 0) = false := decide_eq_false (by omega); unfold idleB; rw [h9]; simp; done) | skip
   refine gFOR 17 h.jobs.length (fun k => h.jobs.all (fun j => decide (j < 0)) = (h.jobs.drop k).all (fun j => decide (j < 0))) rfl fun k hk hv => ?_
   by_cases hkl : k < h.jobs.length
   · rw [List.drop_eq_getElem_cons hkl, List.all_cons] at hv
     have hjr := (hR.jobRng (List.getElem_mem hkl)).1
     repeat' first | refine ST ?_ | intro _ | apply And.intro
     all_goals first | (exfalso; omega) | (rw [hv, decide_eq_true (by omega), Bool.true_and]; done) | (have h9 : decide (h.jobs[k] < 0) = false := decide_eq_false (by omega); unfold idleB; rw [hv, h9]; simp; done)
   · rw [List.drop_eq_nil_of_le (by omega)] at hv
     repeat' first | refine ST ?_ | intro _ | apply And.intro
     all_goals first | (exfalso; omega) | (have h9 : decide (h.todo.length = 0) = true := decide_eq_true (by omega); unfold idleB; rw [hv, hok, h9]; rfl)
 · repeat' first | refine ST ?_ | intro _ | apply And.intro
   all_goals first | exact absurd ‹houseOk h = true› hok | (rw [Bool.eq_false_iff.2 hok]; rfl)
set_option maxHeartbeats 8000000
instance zcS : HC 65 (∀ (W : World) (cs : List Value) (h : House), HsR W cs h → HouseSz h →Sp W [] 65 #[.agg cs.toArray] (RHs (drained h))) := by
 refine ⟨fun W cs h hh hsz => ?_⟩
 have hh1 := hh; obtain ⟨a1, c1, a2, c2, a3, c3, a4, c4, a5, c5, rfl, h1, h2, h3, h4, h5, h6, h7, h8, h9, h10⟩ := hh
 have hsb : ∀ c ∈ h.cabins, c.wheel.spoke.flatten.length ≤ 1048576 := fun c hc => (hsz.2.2.2.2.2 c hc).2.2
 refine gENT (vs := [_]) Tryz.func65 ?_
 by_cases hok : houseOk h = true
 · have hR := houseP_iff.1 (houseP_of hok)
   have hdr : drained h = drainGo 60 0 h := by unfold drained; rw [if_pos hok]
   have hcr := (rr_of hR.rules).crew
   repeat' first | refine ST ?_ | refine ST2 ?_ | refine ST3 ?_ | intro _ | apply And.intro
   · exact absurd (‹houseOk h = false›.symm.trans hok) (by decide)
   rename_i q1 hx0
   refine gFORG 4 60 (fun _ => []) [(2, fun q : House × H5 => hCl q.1 q.2)] (fun q => hOs q.1 q.2) (fun k q => HRep q.1 ∧ q.1.rules = h.rules ∧ drained h = drainGo (60 - k) k q.1) (h, q1) (h0 := ⟨hR, rfl, hdr⟩) (body := fun k q hk hi => ?_)
   obtain ⟨x, ⟨b1, d1⟩, ⟨b2, d2⟩, ⟨b3, d3⟩, ⟨b4, d4⟩, b5, d5⟩ := q
   obtain ⟨i1, i2, i3⟩ : HRep x ∧ x.rules = h.rules ∧ drained h = drainGo (60 - k) k x := hi
   have hsx := i1.sz
   have hxk : houseOk x = true := i1.eq
   by_cases hkl : k < 60
   · have e60 : 60 - k = (60 - (k + 1)) + 1 := by omega
     rw [e60] at i3
     unfold drainGo at i3
     rw [show x.rules.crew = h.rules.crew by rw [i2]] at i3
     by_cases hid : idleB x = true
     · rw [if_pos hid] at i3
       repeat' first | refine ST ?_ | refine ST2 ?_ | refine ST3 ?_ | intro _ | apply And.intro
       all_goals first | exact i3.symm | (have h9 : (houseOk x && idleB x) = false := ‹_›; rw [hxk, hid] at h9; exact absurd h9 (by decide)) | (exfalso; omega)
     · rw [if_neg hid] at i3
       repeat' first | refine ST ?_ | refine ST2 ?_ | refine ST3 ?_ | intro _ | apply And.intro
       all_goals first
        | (exfalso; omega)
        | exact absurd (by have h9 := ‹(houseOk x && idleB x) = true›; rw [hxk, Bool.true_and] at h9; exact h9) hid
        | (refine gGBACK (doM x ⟨7, Int.tmod k h.rules.crew, 0, 0, 0, 0⟩, _) hkl (hLx := by rfl) (h := ?_)
           exact ⟨do_hp i1, (zaQ _ _).trans i2, i3⟩)
   · have e0 : 60 - k = 0 := by omega
     rw [e0] at i3
     repeat' first | refine ST ?_ | refine ST2 ?_ | refine ST3 ?_ | intro _ | apply And.intro
     all_goals first | (exfalso; omega) | exact i3.symm
 · have hdr : drained h = h := by unfold drained; rw [if_neg hok]
   rw [hdr]
   repeat' first | refine ST ?_ | refine ST2 ?_ | refine ST3 ?_ | intro _ | apply And.intro
   all_goals first | exact absurd ‹houseOk h = true› hok | rfl
set_option maxHeartbeats 1000000
end SX
end Go.Proofs.YtejojcoaohlfbaaGreat
