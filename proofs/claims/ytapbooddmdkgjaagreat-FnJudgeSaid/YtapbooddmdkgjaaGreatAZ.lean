/- Texts of this claim, put together by program. -/
import Derived.Test.YtapbooddmdkgjaaGreatAU
import Derived.Test.YtapbooddmdkgjaaGreatSx9
import Derived.Test.YtapbooddmdkgjaaGreatAQ
import Derived.Test.YtapbooddmdkgjaaGreatAI
import Derived.Test.YtapbooddmdkgjaaGreatAV
import Derived.Test.YtapbooddmdkgjaaGreatAW
/- Who goes ahead of whom; who fits; who was passed over: the reference's side. -/
namespace Go.Proofs.YtapbooddmdkgjaaGreat
namespace SX
open Go Go.RowKit
set_option linter.unusedVariables false
set_option linter.unusedSimpArgs false
set_option maxRecDepth 10000
set_option maxHeartbeats 1000000
attribute [local irreducible] CD DN OPL AT QL QT CND RETG BKP HL HT HO slA slHo slP ptC pull pulls
end SX
end Go.Proofs.YtapbooddmdkgjaaGreat
/- The reference's side: a look. -/
namespace Go.Proofs.YtapbooddmdkgjaaGreat
namespace SX
open Go Go.RowKit
set_option linter.unusedVariables false
set_option linter.unusedSimpArgs false
set_option maxRecDepth 10000
set_option maxHeartbeats 1000000
attribute [local irreducible] CD DN OPL AT QL QT CND RETG BKP HL HT HO slA slHo slP ptC pull pulls
instance sScan_c : HC 94 (∀ (W : World) (cs : List Value) (h : House) (cabin : Int), HsR W cs h → HouseSz h →Sp W [] 94 #[.agg cs.toArray, vi cabin] (RT2 (RHs (scan h cabin).1) (RO 3 intL (scan h cabin).2))) := by
 refine ⟨fun W cs h cabin hh hsz => ?_⟩
 have hh1 := hh; obtain ⟨a1, c1, a2, c2, a3, c3, a4, c4, a5, c5, rfl, h1, h2, h3, h4, h5, h6, h7, h8, h9, h10⟩ := hh
 refine gENT (vs := [_, _]) Tryz.func94 ?_
 by_cases hb : hasCab h cabin = true
 · obtain ⟨hR, hc0, hc1⟩ := hasCab_rep hb
   obtain ⟨hE1, hE2⟩ := expire_hp hb
   have hsc : scan h cabin = scanM (expireM h cabin) cabin := by rw [scan, if_pos hb]
   repeat' first | refine ST ?_ | intro _ | apply And.intro
   iterate 2 exact absurd (‹hasCab h cabin = false›.symm.trans hb) (by decide)
   rename_i q0 e0 he0 hb0 q1
   refine gLPG (fun q : House × H5 × HH × List Int => [(7, .v (.slice q.2.2.1.1 q.2.2.2.length q.2.2.1.2))]) [(2, fun q => hCl q.1 q.2.1)] (fun q => hOs q.1 q.2.1 ++ [slA 3 intL (.slice q.2.2.1.1 q.2.2.2.length q.2.2.1.2) q.2.2.2])
    (fun q => HRep q.1 ∧ hasCab q.1 cabin = true ∧ q.2.2.2.length + waits q.1.parties ≤ 1048576 ∧ scan h cabin = ((scanM q.1 cabin).1, q.2.2.2 ++ (scanM q.1 cabin).2)) (fun q => waits q.1.parties) (expireM h cabin, q1, (e0, 0), [])
    (h0 := ⟨hE1, hE2, by have := waits_le (expireM h cabin).parties; have := hE1.len; simp only [List.length_nil]; omega, hsc⟩) (body := fun q hi => ?_)
   obtain ⟨x, ⟨⟨b1, d1⟩, ⟨b2, d2⟩, ⟨b3, d3⟩, ⟨b4, d4⟩, b5, d5⟩, ⟨e, f⟩, ys⟩ := q
   obtain ⟨i1, i2, i3, i4⟩ : HRep x ∧ hasCab x cabin = true ∧ ys.length + waits x.parties ≤ 1048576 ∧ scan h cabin = ((scanM x cabin).1, ys ++ (scanM x cabin).2) := hi
   have hn := nextM_eq i2
   obtain ⟨_, _, ic1⟩ := hasCab_rep i2
   by_cases hz : nextM x cabin = 0
   · have hzb : decide (nextM x cabin = 0) = true := decide_eq_true hz
     have he9 := scanM_end (h := x) (cabin := cabin) (by rw [hn]; exact hz)
     repeat' first | refine ST ?_ | intro _ | apply And.intro
     all_goals first | (rw [i4, he9]; rfl) | (rw [i4, he9]; exact (List.append_nil ys).symm) | (rename_i n9 _ _ _ _ _; exact absurd hz n9)
   · have hzb : decide (nextM x cabin = 0) = false := decide_eq_false hz
     have hz2 : nextOffer x cabin ≠ 0 := by rw [hn]; exact hz
     have hst := scanM_step hz2
     obtain ⟨o1, o2⟩ := offered_hp hz2
     have how := offered_waits hz2
     repeat' first | refine ST ?_ | intro _ | apply And.intro
     all_goals first
      | (rename_i n9; exact absurd n9 hz)
      | (rename_i r9 n9 u9 u8 e9 c9 nn9
         refine gLBK (offeredM x cabin, r9, (e9, c9), ys ++ [nextM x cabin]) (by show waits (offeredM x cabin).parties < waits x.parties; omega) (hLx := by rfl) (h := ?_)
         refine ⟨o1, o2, ?_, ?_⟩
         · show (ys ++ [nextM x cabin]).length + waits (offeredM x cabin).parties ≤ 1048576
           simp only [List.length_append, List.length_cons, List.length_nil]; omega
         · show scan h cabin = ((scanM (offeredM x cabin) cabin).1, (ys ++ [nextM x cabin]) ++ (scanM (offeredM x cabin) cabin).2)
           rw [i4, hst, hn]; simp)
      | trace_state
 · repeat' first | refine ST ?_ | intro _ | apply And.intro
   all_goals first | exact absurd ‹hasCab h cabin = true› hb | (rw [scan, if_neg hb])
end SX
end Go.Proofs.YtapbooddmdkgjaaGreat
/- The reference's side: an offer that is made; a scan that is judged. -/
namespace Go.Proofs.YtapbooddmdkgjaaGreat
namespace SX
open Go Go.RowKit
set_option linter.unusedVariables false
set_option linter.unusedSimpArgs false
set_option maxRecDepth 10000
set_option maxHeartbeats 1000000
attribute [local irreducible] CD DN OPL AT QL QT CND RETG BKP HL HT HO slA slHo slP ptC pull pulls
end SX
end Go.Proofs.YtapbooddmdkgjaaGreat
/- The reference's side: a pick; a house that is idle; a house that is drained. -/
namespace Go.Proofs.YtapbooddmdkgjaaGreat
namespace SX
open Go Go.RowKit
set_option linter.unusedVariables false
set_option linter.unusedSimpArgs false
set_option maxRecDepth 10000
set_option maxHeartbeats 1000000
attribute [local irreducible] CD DN OPL AT QL QT CND RETG BKP HL HT HO slA slHo slP ptC pull pulls
theorem pick_facts {h : House} {who : Int} (hv : verdict h ⟨7, who, 0, 0, 0, 0⟩ = 0) : HRep h ∧ 0 ≤ who ∧ who < h.rules.crew ∧ ¬ (jobAt h who < 0 ∧ h.todo.length = 0) ∧ who < (h.jobs.length : Int) ∧ h.jobs[who.toNat]? = some (jobAt h who) ∧ -1 ≤ jobAt h who ∧ jobAt h who < (h.cabins.length : Int) ∧ doM h ⟨7, who, 0, 0, 0, 0⟩ = (pickM h who).1 ∧ idsM h ⟨7, who, 0, 0, 0, 0⟩ = (pickM h who).2 := by
  have v := verdict_ok hv
  have r := (reqOk_form v.ok).2.1
  have g := v.v
  have r0 : 0 ≤ who := r.1
  have g2 : vPick h ⟨7, who, 0, 0, 0, 0⟩ = 0 := by simpa [vKind] using g
  unfold vPick at g2
  split at g2
  · omega
  · rename_i hc
    split at g2
    · omega
    · rename_i ht
      have hc2 : who < h.rules.crew := by have : ¬ who ≥ h.rules.crew := hc; omega
      obtain ⟨j1, j2, j3⟩ := job_rng v.hp r0 hc2
      have hl := (JobsP.iff.1 v.hp.jobs).2.2.2
      refine ⟨v.hp, r0, hc2, ht, by omega, j1, j2, j3, ?_, ?_⟩
      · rw [doM, if_pos hv]; rfl
      · rw [idsM, if_pos ⟨hv, rfl⟩]
theorem headD_get (l : List Int) (h : 0 < l.length) : l.headD 0 = l[0] := by
  cases l with
  | nil => simp at h
  | cons x l => rfl
theorem pickM_take {h : House} {who : Int} (hj : jobAt h who < 0) (hl : 0 < h.todo.length) : pickM h who = (⟨h.rules, h.now, h.turn, h.parties, h.cabins, h.todo.drop 1, h.jobs.set who.toNat (h.todo[0]'hl)⟩, []) := by
  unfold pickM withJobs
  rw [if_pos hj, headD_get _ hl, List.drop_one]
theorem pickM_scan {h : House} {who : Int} (hj : ¬ jobAt h who < 0) : pickM h who = (⟨(scan h (jobAt h who)).1.rules, (scan h (jobAt h who)).1.now, (scan h (jobAt h who)).1.turn, (scan h (jobAt h who)).1.parties, (scan h (jobAt h who)).1.cabins, (scan h (jobAt h who)).1.todo, (scan h (jobAt h who)).1.jobs.set who.toNat (-1)⟩, (scan h (jobAt h who)).2) := by
  unfold pickM withJobs
  rw [if_neg hj]
theorem pickM_scan9 {h : House} {who j : Int} (he : j = jobAt h who) (hj : ¬ j < 0) : pickM h who = (⟨(scan h j).1.rules, (scan h j).1.now, (scan h j).1.turn, (scan h j).1.parties, (scan h j).1.cabins, (scan h j).1.todo, (scan h j).1.jobs.set who.toNat (-1)⟩, (scan h j).2) := by
  subst he
  exact pickM_scan hj
theorem pick_rules (h : House) (who : Int) : (doM h ⟨7, who, 0, 0, 0, 0⟩).rules = h.rules := by
  by_cases hv : verdict h ⟨7, who, 0, 0, 0, 0⟩ = 0
  · obtain ⟨p1, p2, p3, p4, p5, p6, p7, p8, p9, p10⟩ := pick_facts hv
    rw [p9]
    by_cases hj : jobAt h who < 0
    · unfold pickM; rw [if_pos hj]; rfl
    · rw [pickM_scan hj]
      exact (scan_hp p1 (by omega) p8).2.2.1
  · rw [doM, if_neg hv]
instance s16Idle_c : HC 110 (∀ (W : World) (cs : List Value) (h : House), HsR W cs h →Sp W [] 110 #[.agg cs.toArray] (RV (.bool (idleB h)))) := by
 refine ⟨fun W cs h hh => ?_⟩
 have hh1 := hh; obtain ⟨a1, c1, a2, c2, a3, c3, a4, c4, a5, c5, rfl, h1, h2, h3, h4, h5, h6, h7, h8, h9, h10⟩ := hh
 have hl := h10.len
 refine gENT (vs := [_]) Tryz.func110 ?_
 repeat' first | refine ST ?_ | intro _ | apply And.intro
 refine gFOR 3 h.jobs.length (fun k => h.jobs.all (fun j => decide (j < 0)) = (h.jobs.drop k).all (fun j => decide (j < 0))) rfl fun k hk hv => ?_
 by_cases hkl : k < h.jobs.length
 · rw [List.drop_eq_getElem_cons hkl, List.all_cons] at hv
   repeat' first | refine ST ?_ | intro _ | apply And.intro
   all_goals first | (exfalso; omega) | (rw [hv, decide_eq_true (by omega), Bool.true_and]; done) | (unfold idleB; rw [hv, decide_eq_false (by omega)]; rfl) | trace_state
 · rw [List.drop_eq_nil_of_le (by omega)] at hv
   repeat' first | refine ST ?_ | intro _ | apply And.intro
   all_goals first | (exfalso; omega) | (simp only [idleB, hv, List.all_nil, Bool.true_and]; by_cases h9 : h.todo.length = 0 <;> simp [h9]; done) | trace_state
end SX
end Go.Proofs.YtapbooddmdkgjaaGreat
