/- The program's side: an offer that is accepted. -/
import Derived.Test.YtejojcoaohlfbaaGreatBP
import Derived.Test.YtejojcoaohlfbaaGreatAU
import Derived.Test.YtejojcoaohlfbaaGreatSx9
namespace Go.Proofs.YtejojcoaohlfbaaGreat
namespace SX
open Go Go.RowKit
set_option linter.unusedVariables false
set_option linter.unusedSimpArgs false
set_option maxRecDepth 10000
set_option maxHeartbeats 1000000
attribute [local irreducible] CD DN OPL AT QL QT CND RETG BKP HL HT HO slA slHo slP ptC pull pulls
instance iAccept_c : HC 70 (∀ (W : World) (cs : List Value) (h : House) (id : Int), HsR W cs h → HouseSz h →Sp W [] 70 #[.agg cs.toArray, vi id] (RT2 (RHs (doM h ⟨4, id, 0, 0, 0, 0⟩)) (RV (vi (verdict h ⟨4, id, 0, 0, 0, 0⟩))))) := by
 refine ⟨fun W cs h id hh hsz => ?_⟩
 have hh1 := hh; obtain ⟨a1, c1, a2, c2, a3, c3, a4, c4, a5, c5, rfl, h1, h2, h3, h4, h5, h6, h7, h8, h9, h10⟩ := hh
 have hsb : ∀ c ∈ h.cabins, c.wheel.spoke.flatten.length ≤ 1048576 := fun c hc => (hsz.2.2.2.2.2 c hc).2.2
 refine gENT (vs := [_, _]) Tryz.func70 ?_
 by_cases hv : verdict h ⟨4, id, 0, 0, 0, 0⟩ = 0
 · obtain ⟨hR, pm, pid, pst⟩ := ansV rfl (.inl rfl) hv
   obtain ⟨p1, p2, p3⟩ := at_fact hR pm pid
   have p4 := p3 (by omega)
   have hd : doM h ⟨4, id, 0, 0, 0, 0⟩ = acceptM h (partyOf h.parties id) := by rw [doM, if_pos hv]; rfl
   have g := hR.pr pm; have g1 := g.cab; have g2 := g.frm; have g3 := hR.cabs
   rw [p4] at hd g1 g2 pid
   have hp9 := hsz.2.1; have ht9 := hsz.2.2.2.1
   have hk : ((h.parties[(atId h.parties id).toNat]'(by omega)).cabin).toNat < h.cabins.length := by omega
   have hx := List.getElem?_eq_getElem hk
   obtain ⟨hs1, hs2, hs3⟩ := hsz.2.2.2.2.2 _ (List.getElem_mem hk)
   repeat' first | refine ST ?_ | refine ST2 ?_ | refine hLH (hC := by exact NT9) (k := ?_) | refine hHL (hp := by exact PU9) (k := fun i9 => ?_) | refine hSH (hp := by exact PU9) (k := ?_) | refine hEND (hC := by exact eb5 PU9 PU9 PU9 PU9 PU9) (k := ?_) | (refine goLd ?_; refine uUNC (hp := by exact PU9) (hp1 := by exact PU9) (hp2 := by exact PU9) (k := ?_); refine hHL (hp := by exact PU9) (k := fun i9 => ?_)) | intro _ | apply And.intro
   all_goals first | exact absurd hv ‹verdict h _ ≠ 0› | exact hv.symm | (rw [hd, accM_no hx (by omega) pid]; done) | exact (hd.trans (accM_fr hx (by omega) (List.getElem?_eq_getElem (by rw [List.length_set]; omega)) pid)).symm | rfl | trace_state
 · repeat' first | refine ST ?_ | refine ST2 ?_ | intro _ | apply And.intro
   all_goals first | (rw [doM, if_neg hv]; done) | exact absurd ‹_› hv | rfl | trace_state
end SX
end Go.Proofs.YtejojcoaohlfbaaGreat
