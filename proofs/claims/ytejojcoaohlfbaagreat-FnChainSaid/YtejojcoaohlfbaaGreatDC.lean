/- The program's side: a pick. -/
import Derived.Test.YtejojcoaohlfbaaGreatCD
import Derived.Test.YtejojcoaohlfbaaGreatBP
import Derived.Test.YtejojcoaohlfbaaGreatSx9
namespace Go.Proofs.YtejojcoaohlfbaaGreat
namespace SX
open Go Go.RowKit
set_option linter.unusedVariables false
set_option linter.unusedSimpArgs false
set_option maxRecDepth 10000
set_option maxHeartbeats 1000000
attribute [local irreducible] CD DN OPL AT QL QT CND RETG BKP HL HT HO slA slHo slP ptC pull pulls
set_option maxHeartbeats 8000000
theorem iPick_take (W : World) (cs : List Value) (h : House) (who : Int) (hh : HsR W cs h) (hsz : HouseSz h) (hv : verdict h ⟨7, who, 0, 0, 0, 0⟩ = 0) (hj : jobAt h who < 0) : Sp W [] 129 #[.agg cs.toArray, vi who] (RT3 (RHs (doM h ⟨7, who, 0, 0, 0, 0⟩)) (RV (vi (verdict h ⟨7, who, 0, 0, 0, 0⟩))) (RO 3 intL (idsM h ⟨7, who, 0, 0, 0, 0⟩))) := by
 have hh1 := hh; obtain ⟨a1, c1, a2, c2, a3, c3, a4, c4, a5, c5, rfl, h1, h2, h3, h4, h5, h6, h7, h8, h9, h10⟩ := hh
 have ht9 := hsz.2.2.2.1
 have hsb : ∀ c ∈ h.cabins, c.wheel.spoke.flatten.length ≤ 1048576 := fun c hc => (hsz.2.2.2.2.2 c hc).2.2
 refine gENT (vs := [_, _]) Tryz.func129 (gNILN 3 intL ?_)
 obtain ⟨p1, p2, p3, p4, p5, p6, p7, p8, p9, p10⟩ := pick_facts hv
 have hje : h.jobs[who.toNat]'(by omega) = jobAt h who := (List.getElem?_eq_some_iff.1 p6).2
 have htl : 0 < h.todo.length := by omega
 have q9 := p9.trans (congrArg Prod.fst (pickM_take hj htl)); have q10 := p10.trans (congrArg Prod.snd (pickM_take hj htl))
 rw [← hje] at hj p7 p8
 repeat' first | (refine idAT ?_; refine gtC ?_; refine aCLOz (h0 := by omega) (hz := by omega) (k := fun a9 => ?_)) | refine ST ?_ | refine ST2 ?_ | refine ST3 ?_ | intro _ | apply And.intro
 all_goals first | exact hv.symm | (refine Eq.trans ?_ q9.symm; rfl) | (refine Eq.trans ?_ q10.symm; rfl) | exact absurd hv ‹verdict h _ ≠ 0› | rfl | (exfalso; omega) | trace_state
theorem iPick_scan (W : World) (cs : List Value) (h : House) (who : Int) (hh : HsR W cs h) (hsz : HouseSz h) (hv : verdict h ⟨7, who, 0, 0, 0, 0⟩ = 0) (hj : ¬ jobAt h who < 0) : Sp W [] 129 #[.agg cs.toArray, vi who] (RT3 (RHs (doM h ⟨7, who, 0, 0, 0, 0⟩)) (RV (vi (verdict h ⟨7, who, 0, 0, 0, 0⟩))) (RO 3 intL (idsM h ⟨7, who, 0, 0, 0, 0⟩))) := by
 have hh1 := hh; obtain ⟨a1, c1, a2, c2, a3, c3, a4, c4, a5, c5, rfl, h1, h2, h3, h4, h5, h6, h7, h8, h9, h10⟩ := hh
 have ht9 := hsz.2.2.2.1
 have hsb : ∀ c ∈ h.cabins, c.wheel.spoke.flatten.length ≤ 1048576 := fun c hc => (hsz.2.2.2.2.2 c hc).2.2
 refine gENT (vs := [_, _]) Tryz.func129 (gNILN 3 intL ?_)
 obtain ⟨p1, p2, p3, p4, p5, p6, p7, p8, p9, p10⟩ := pick_facts hv
 have hje : h.jobs[who.toNat]'(by omega) = jobAt h who := (List.getElem?_eq_some_iff.1 p6).2
 have q9 := p9.trans (congrArg Prod.fst (pickM_scan9 hje (by rw [hje]; exact hj))); have q10 := p10.trans (congrArg Prod.snd (pickM_scan9 hje (by rw [hje]; exact hj)))
 obtain ⟨s1, s2, s3, s4, s5, s6⟩ := scan_hp p1 (show 0 ≤ jobAt h who by omega) p8
 have hhc := hasCab_mk p1 (show 0 ≤ jobAt h who by omega) p8
 have hjl : who < ((scan h (jobAt h who)).1.jobs.length : Int) := by rw [s6]; omega
 rw [← hje] at hj p7 p8 hjl hhc
 repeat' first | refine ST ?_ | refine ST2 ?_ | refine ST3 ?_ | intro _ | apply And.intro
 all_goals first | exact hv.symm | (refine Eq.trans ?_ q9.symm; rfl) | (refine Eq.trans ?_ q10.symm; rfl) | exact absurd hv ‹verdict h _ ≠ 0› | rfl | (exfalso; omega) | trace_state
theorem iPick_no (W : World) (cs : List Value) (h : House) (who : Int) (hh : HsR W cs h) (hsz : HouseSz h) (hv : ¬ verdict h ⟨7, who, 0, 0, 0, 0⟩ = 0) : Sp W [] 129 #[.agg cs.toArray, vi who] (RT3 (RHs (doM h ⟨7, who, 0, 0, 0, 0⟩)) (RV (vi (verdict h ⟨7, who, 0, 0, 0, 0⟩))) (RO 3 intL (idsM h ⟨7, who, 0, 0, 0, 0⟩))) := by
 have hh1 := hh; obtain ⟨a1, c1, a2, c2, a3, c3, a4, c4, a5, c5, rfl, h1, h2, h3, h4, h5, h6, h7, h8, h9, h10⟩ := hh
 have ht9 := hsz.2.2.2.1
 have hsb : ∀ c ∈ h.cabins, c.wheel.spoke.flatten.length ≤ 1048576 := fun c hc => (hsz.2.2.2.2.2 c hc).2.2
 refine gENT (vs := [_, _]) Tryz.func129 (gNILN 3 intL ?_)
 have hd : doM h ⟨7, who, 0, 0, 0, 0⟩ = h := by rw [doM, if_neg hv]
 have hi : idsM h ⟨7, who, 0, 0, 0, 0⟩ = [] := by rw [idsM, if_neg (fun h9 => hv h9.1)]
 repeat' first | refine ST ?_ | refine ST2 ?_ | refine ST3 ?_ | intro _ | apply And.intro
 all_goals first | exact absurd ‹_› hv | exact hd.symm | exact hi.symm | rfl | trace_state
instance iPick_c : HC 129 (∀ (W : World) (cs : List Value) (h : House) (who : Int), HsR W cs h → HouseSz h →Sp W [] 129 #[.agg cs.toArray, vi who] (RT3 (RHs (doM h ⟨7, who, 0, 0, 0, 0⟩)) (RV (vi (verdict h ⟨7, who, 0, 0, 0, 0⟩))) (RO 3 intL (idsM h ⟨7, who, 0, 0, 0, 0⟩)))) := by
 refine ⟨fun W cs h who hh hsz => ?_⟩
 by_cases hv : verdict h ⟨7, who, 0, 0, 0, 0⟩ = 0
 · by_cases hj : jobAt h who < 0
   · exact iPick_take W cs h who hh hsz hv hj
   · exact iPick_scan W cs h who hh hsz hv hj
 · exact iPick_no W cs h who hh hsz hv
end SX
end Go.Proofs.YtejojcoaohlfbaaGreat
