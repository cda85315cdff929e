/- Texts of this claim, put together by program. -/
import Derived.Test.YtejojcoaohlfbaaGreatAZ
import Derived.Test.YtejojcoaohlfbaaGreatLC
namespace Go.Proofs.YtejojcoaohlfbaaGreat
namespace SX
open Go Go.RowKit
set_option linter.unusedVariables false
set_option linter.unusedSimpArgs false
set_option maxRecDepth 10000
set_option maxHeartbeats 1000000
attribute [local irreducible] CD DN OPL AT QL QT CND RETG BKP HL HT HO slA slHo slP ptC pull pulls
theorem zS (now : Int) (l : List Party) : (zg now l).length ≤ l.length := by
 unfold zg; rw [List.length_map]; exact List.length_filter_le _ _
instance zcD : HC 152 (∀ (W : World) (cs : List Value) (h : House), HsR W cs h → HouseSz h →Sp W [] 152 #[.agg cs.toArray] (RT2 (RHs (zd h).1) (RO 3 intL (zd h).2))) := by
 refine ⟨fun W cs h hh hsz => ?_⟩
 have hh1 := hh; obtain ⟨a1, c1, a2, c2, a3, c3, a4, c4, a5, c5, rfl, h1, h2, h3, h4, h5, h6, h7, h8, h9, h10⟩ := hh
 have hp9 := hsz.2.1
 have hsb : ∀ c ∈ h.cabins, c.wheel.spoke.flatten.length ≤ 1048576 := fun c hc => (hsz.2.2.2.2.2 c hc).2.2
 refine gENT (vs := [_]) Tryz.func152 ?_
 by_cases hok : houseOk h = true
 · have hR := houseP_iff.1 (houseP_of hok)
   have hac : zd h = (zo h.now h.parties h, zg h.now h.parties) := if_pos hok
   repeat' first | refine ST ?_ | intro _ | apply And.intro
   iterate 2 exact absurd (‹houseOk h = false›.symm.trans hok) (by decide)
   rename_i q1 e0 hb0 hx0
   refine gFORG 6 h.parties.length (fun q : House × H5 × HH × List Int => [(5, .v (.slice q.2.2.1.1 q.2.2.2.length q.2.2.1.2))]) [(2, fun q => hCl q.1 q.2.1)] (fun q => hOs q.1 q.2.1 ++ [slA 3 intL (.slice q.2.2.1.1 q.2.2.2.length q.2.2.1.2) q.2.2.2]) (fun k q => HRep q.1 ∧ q.1 = zo h.now (h.parties.take k) h ∧ q.2.2.2 = zg h.now (h.parties.take k)) (h, q1, (e0, 0), []) (h0 := ⟨hR, rfl, rfl⟩) (body := fun k q hk hi => ?_)
   obtain ⟨x, ⟨⟨b1, d1⟩, ⟨b2, d2⟩, ⟨b3, d3⟩, ⟨b4, d4⟩, b5, d5⟩, ⟨e, f⟩, ys⟩ := q
   obtain ⟨i1, i2, i3⟩ : HRep x ∧ x = zo h.now (h.parties.take k) h ∧ ys = zg h.now (h.parties.take k) := hi
   have hsx := i1.sz
   have hyl : ys.length ≤ k := by rw [i3]; exact Nat.le_trans (zS _ _) (List.length_take_le _ _)
   by_cases hkl : k < h.parties.length
   · have e1 := zaE (now := h.now) (x := h) hkl
     have e2 := zau (now := h.now) hkl
     rw [← i2] at e1
     rw [← i3] at e2
     unfold zm at e1
     by_cases hc : (h.parties[k].state == 2 && !dueB h.parties[k] h.now) = true
     · rw [if_pos hc] at e1 e2
       repeat' first | refine ST ?_ | intro _ | apply And.intro
       all_goals first
        | (exfalso; have hd := ‹dueB h.parties[k] h.now = true›; rw [hd] at hc; simp at hc; done)
        | (exfalso; simp_all; done)
        | (rename_i x9 e8 he8 e9 c9 hn9
           refine gGBACK (doM x ⟨4, h.parties[k].id, 0, 0, 0, 0⟩, x9.1, (e9, c9), ys ++ [h.parties[k].id]) hkl (hLx := by rfl) (h := ?_)
           exact ⟨do_hp i1, e1.symm, e2.symm⟩)
     · rw [if_neg hc] at e1 e2
       repeat' first | refine ST ?_ | intro _ | apply And.intro
       all_goals first
        | (exfalso; apply hc; have hd := ‹dueB h.parties[k] h.now = false›; have hd2 := ‹h.parties[k].state = 2›; rw [hd, hd2]; rfl)
        | (refine gGBACK (x, ((b1, d1), (b2, d2), (b3, d3), (b4, d4), b5, d5), (e, f), ys) hkl (hLx := by rfl) (h := ?_)
           exact ⟨i1, e1.symm, e2.symm⟩)
        | (exfalso; simp_all; done)
   · rw [List.take_of_length_le (by omega)] at i2 i3
     repeat' first | refine ST ?_ | intro _ | apply And.intro
     all_goals first | (exfalso; omega) | (rw [hac]; exact i2) | (rw [hac]; exact i3)
 · have hac : zd h = (h, []) := if_neg hok
   repeat' first | refine ST ?_ | intro _ | apply And.intro
   all_goals first | exact absurd ‹houseOk h = true› hok | (rw [hac]; done) | (rw [hac]; rfl)
theorem zaQ (h : House) (who : Int) : (doM h ⟨7, who, 0, 0, 0, 0⟩).rules = h.rules := by
 by_cases hv : verdict h ⟨7, who, 0, 0, 0, 0⟩ = 0
 · obtain ⟨p1, p2, p3, p4, p5, p6, p7, p8, p9, p10⟩ := pick_facts hv
   rw [p9]
   by_cases hj : jobAt h who < 0
   · unfold pickM; rw [if_pos hj]; rfl
   · rw [pickM_scan hj]
     exact (scan_hp p1 (by omega) p8).2.2.1
 · rw [doM, if_neg hv]
instance zdg : HC 161 (∀ (W : World) (cs : List Value) (h : House), HsR W cs h →Sp W [] 161 #[.agg cs.toArray] (RV (.bool (idleB h)))) := by
 refine ⟨fun W cs h hh => ?_⟩
 have hh1 := hh; obtain ⟨a1, c1, a2, c2, a3, c3, a4, c4, a5, c5, rfl, h1, h2, h3, h4, h5, h6, h7, h8, h9, h10⟩ := hh
 have hl := h10.len
 refine gENT (vs := [_]) Tryz.func161 ?_
 repeat' first | refine ST ?_ | intro _ | apply And.intro
 refine gFOR 3 h.jobs.length (fun k => h.jobs.all (fun j => decide (j < 0)) = (h.jobs.drop k).all (fun j => decide (j < 0))) rfl fun k hk hv => ?_
 by_cases hkl : k < h.jobs.length
 · rw [List.drop_eq_getElem_cons hkl, List.all_cons] at hv
   repeat' first | refine ST ?_ | intro _ | apply And.intro
   all_goals first | (exfalso; omega) | (rw [hv, decide_eq_true (by omega), Bool.true_and]; done) | (unfold idleB; rw [hv, decide_eq_false (by omega)]; rfl)
 · rw [List.drop_eq_nil_of_le (by omega)] at hv
   repeat' first | refine ST ?_ | intro _ | apply And.intro
   all_goals first | (exfalso; omega) | (simp only [idleB, hv, List.all_nil, Bool.true_and]; by_cases h9 : h.todo.length = 0 <;> simp [h9]; done)
end SX
end Go.Proofs.YtejojcoaohlfbaaGreat
