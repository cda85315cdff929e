/- Texts of this claim, put together by program. -/
import Derived.Test.YtejojcoaohlfbaaGreatAU
import Derived.Test.YtejojcoaohlfbaaGreatSx9
import Derived.Test.YtejojcoaohlfbaaGreatAS
import Derived.Test.YtejojcoaohlfbaaGreatAP
namespace Go.Proofs.YtejojcoaohlfbaaGreat
namespace SX
open Go Go.RowKit
set_option linter.unusedVariables false
set_option linter.unusedSimpArgs false
set_option maxRecDepth 10000
set_option maxHeartbeats 1000000
attribute [local irreducible] CD DN OPL AT QL QT CND RETG BKP HL HT HO slA slHo slP ptC pull pulls
theorem pick_facts {h : House} {who : Int} (hv : verdict h ⟨7, who, 0, 0, 0, 0⟩ = 0) : HRep h ∧ 0 ≤ who ∧ who < h.rules.crew ∧ ¬ (jobAt h who < 0 ∧ h.todo.length = 0) ∧ who < (h.jobs.length : Int) ∧ h.jobs[who.toNat]? = some (jobAt h who) ∧ -1 ≤ jobAt h who ∧ jobAt h who < (h.cabins.length : Int) ∧ doM h ⟨7, who, 0, 0, 0, 0⟩ = (pickM h who).1 ∧ idsM h ⟨7, who, 0, 0, 0, 0⟩ = (pickM h who).2 := by
 have v := verdict_ok hv
 have r := (reqOk_form v.ok).2.1
 have g := v.v
 have r0 : 0 ≤ who := r.1
 have g2 : vPick h ⟨7, who, 0, 0, 0, 0⟩ = 0 := by simpa [vKind] using g
 unfold vPick at g2
 split at g2
 · omega
 · rename_i hc
   split at g2
   · omega
   · rename_i ht
     have hc2 : who < h.rules.crew := by have : ¬ who ≥ h.rules.crew := hc; omega
     obtain ⟨j1, j2, j3⟩ := job_rng v.hp r0 hc2
     have hl := (JobsP.iff.1 v.hp.jobs).2.2.2
     refine ⟨v.hp, r0, hc2, ht, by omega, j1, j2, j3, ?_, ?_⟩
     · rw [doM, if_pos hv]; rfl
     · rw [idsM, if_pos ⟨hv, rfl⟩]
theorem headD_get (l : List Int) (h : 0 < l.length) : l.headD 0 = l[0] := by
 cases l with
 | nil => simp at h
 | cons x l => rfl
theorem pickM_take {h : House} {who : Int} (hj : jobAt h who < 0) (hl : 0 < h.todo.length) : pickM h who = (⟨h.rules, h.now, h.turn, h.parties, h.cabins, h.todo.drop 1, h.jobs.set who.toNat (h.todo[0]'hl)⟩, []) := by
 unfold pickM withJobs
 rw [if_pos hj, headD_get _ hl, List.drop_one]
theorem pickM_scan {h : House} {who : Int} (hj : ¬ jobAt h who < 0) : pickM h who = (⟨(scan h (jobAt h who)).1.rules, (scan h (jobAt h who)).1.now, (scan h (jobAt h who)).1.turn, (scan h (jobAt h who)).1.parties, (scan h (jobAt h who)).1.cabins, (scan h (jobAt h who)).1.todo, (scan h (jobAt h who)).1.jobs.set who.toNat (-1)⟩, (scan h (jobAt h who)).2) := by
 unfold pickM withJobs
 rw [if_neg hj]
theorem pickM_scan9 {h : House} {who j : Int} (he : j = jobAt h who) (hj : ¬ j < 0) : pickM h who = (⟨(scan h j).1.rules, (scan h j).1.now, (scan h j).1.turn, (scan h j).1.parties, (scan h j).1.cabins, (scan h j).1.todo, (scan h j).1.jobs.set who.toNat (-1)⟩, (scan h j).2) := by
 subst he
 exact pickM_scan hj
end SX
end Go.Proofs.YtejojcoaohlfbaaGreat
