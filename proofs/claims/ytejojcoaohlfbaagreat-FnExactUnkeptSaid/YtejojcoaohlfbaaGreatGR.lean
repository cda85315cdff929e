/- The reference's side: requests behind which a right house is not kept. -/
import Derived.Test.YtejojcoaohlfbaaGreatDN
import Derived.Test.YtejojcoaohlfbaaGreatFU
import Derived.Test.YtejojcoaohlfbaaGreatMdb3
namespace Go.Proofs.YtejojcoaohlfbaaGreat
namespace SX
open Go Go.RowKit
set_option linter.unusedVariables false
set_option linter.unusedSimpArgs false
set_option maxRecDepth 10000
set_option maxHeartbeats 1000000
attribute [local irreducible] CD DN OPL AT QL QT CND RETG BKP HL HT HO slA slHo slP ptC pull pulls
set_option maxHeartbeats 4000000
theorem sdo_same {h : House} {q : Req} (hv : verdict h q ≠ 0) : h = doM h q := by unfold doM; rw [if_neg hv]
theorem sUnk_ok : ∀ (W : World) (cs : List Value) (h : House) (l : List Req) (v : Value), HsR W cs h → HouseSz h → Rs reqL W v l → l.length ≤ 1048576 → houseOk h = true → Sp W [] 20 #[.agg cs.toArray, v] (RO 3 intL (unkept h l)) := by
 intro W cs h l v hh hsz hv0 hln hok
 obtain ⟨a9, c9, rfl, hc9, hr9⟩ := hv0
 have hh1 := hh; obtain ⟨a1, c1, a2, c2, a3, c3, a4, c4, a5, c5, rfl, h1, h2, h3, h4, h5, h6, h7, h8, h9, h10⟩ := hh
 refine gENT (vs := [_, _]) Tryz.func20 ?_
 have hun : unkept h l = [] := if_pos hok
 have hR := houseP_iff.1 (houseP_of hok)
 repeat' first | exact absurd (‹houseOk h = false›.symm.trans hok) (by decide) | refine ST ?_ | refine ST2 ?_ | intro _ | apply And.intro
 refine gFORG 6 l.length (fun q : Bool × House × H5 => []) [(0, fun q => hCl q.2.1 q.2.2)] (fun q => Bool.rec [] (hOs q.2.1 q.2.2) q.1) (fun k q => HRep q.2.1 ∧ (q.1 = false → HsR W (hCl q.2.1 q.2.2) q.2.1)) (false, h, ((a1, c1), (a2, c2), (a3, c3), (a4, c4), a5, c5)) (h0 := ⟨hR, fun _ => hh1⟩) (body := fun k q hk hi => ?_)
 obtain ⟨own, x, ⟨⟨b1, d1⟩, ⟨b2, d2⟩, ⟨b3, d3⟩, ⟨b4, d4⟩, b5, d5⟩⟩ := q
 obtain ⟨hi, hrd⟩ : HRep x ∧ (own = false → HsR W (hCl x ((b1, d1), (b2, d2), (b3, d3), (b4, d4), b5, d5)) x) := hi
 have hsx := hi.sz
 clear hh1 h1 h2 h3 h4 h5 h6 h7 h8 h9 h10 hsz hR
 by_cases hkl : k < l.length
 · have hR2 : HRep (doM x l[k]) := do_hp hi
   have hs2 := hR2.sz
   have hsb : ∀ c ∈ (doM x l[k]).cabins, c.wheel.spoke.flatten.length ≤ 1048576 := fun c hc => (hs2.2.2.2.2.2 c hc).2.2
   have ho1 : houseOk x = true := hi.eq
   have ho2 : houseOk (doM x l[k]) = true := hR2.eq
   have hsm : verdict x l[k] ≠ 0 → x = doM x l[k] := sdo_same
   cases own
   · replace hrd := hrd rfl
     repeat' first | exact absurd hkl ‹¬ k < l.length› | exact absurd (‹houseOk (doM x l[k]) = false›.symm.trans ho2) (by decide) | refine ST ?_ | refine ST2 ?_ | intro _ | apply And.intro
     all_goals first
      | (rename_i x9 _ _
         refine gGBACK (true, doM x l[k], x9.1) hkl (hLx := by rfl) (h := ⟨hR2, fun w => by cases w⟩))
      | (rename_i x9 _ _ _
         refine gGBACK (true, doM x l[k], x9.1) hkl (hLx := by rfl) (h := ⟨hR2, fun w => by cases w⟩))
      | trace_state
   · clear hrd
     repeat' first | exact absurd hkl ‹¬ k < l.length› | exact absurd (‹houseOk (doM x l[k]) = false›.symm.trans ho2) (by decide) | refine ST ?_ | refine ST2 ?_ | intro _ | apply And.intro
     all_goals first
      | (rename_i x9 _ _
         refine gGBACK (true, doM x l[k], x9.1) hkl (hLx := by rfl) (h := ⟨hR2, fun w => by cases w⟩))
      | (rename_i x9 _ _ _
         refine gGBACK (true, doM x l[k], x9.1) hkl (hLx := by rfl) (h := ⟨hR2, fun w => by cases w⟩))
      | trace_state
 · cases own <;> (repeat' first | exact absurd ‹k < l.length› hkl | refine ST ?_ | refine ST2 ?_ | intro _ | apply And.intro) <;> first | (rw [hun]; done) | (rw [hun]; rfl) | trace_state
end SX
end Go.Proofs.YtejojcoaohlfbaaGreat
