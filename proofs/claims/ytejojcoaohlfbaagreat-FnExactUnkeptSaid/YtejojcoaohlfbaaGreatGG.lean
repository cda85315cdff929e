/- The program's side: requests behind which a house is not kept. -/
import Derived.Test.YtejojcoaohlfbaaGreatDQ
import Derived.Test.YtejojcoaohlfbaaGreatGF
import Derived.Test.YtejojcoaohlfbaaGreatMdb3
namespace Go.Proofs.YtejojcoaohlfbaaGreat
namespace SX
open Go Go.RowKit
set_option linter.unusedVariables false
set_option linter.unusedSimpArgs false
set_option maxRecDepth 10000
set_option maxHeartbeats 1000000
attribute [local irreducible] CD DN OPL AT QL QT CND RETG BKP HL HT HO slA slHo slP ptC pull pulls
set_option maxHeartbeats 4000000
theorem do_same {h : House} {q : Req} (hv : verdict h q ≠ 0) : h = doM h q := by unfold doM; rw [if_neg hv]
instance iUnkept_c : HC 21 (∀ (W : World) (cs : List Value) (h : House) (l : List Req) (v : Value), HsR W cs h → HouseSz h → Rs reqL W v l → l.length ≤ 1048576 →Sp W [] 21 #[.agg cs.toArray, v] (RO 3 intL (unkept h l))) := by
 refine ⟨fun W cs h l v hh hsz hv0 hln => ?_⟩
 obtain ⟨a9, c9, rfl, hc9, hr9⟩ := hv0
 have hh1 := hh; obtain ⟨a1, c1, a2, c2, a3, c3, a4, c4, a5, c5, rfl, h1, h2, h3, h4, h5, h6, h7, h8, h9, h10⟩ := hh
 refine gENT (vs := [_, _]) Tryz.func21 (gNILN 3 intL ?_)
 by_cases hok : houseOk h = true
 · have hun : unkept h l = [] := if_pos hok
   have hR := houseP_iff.1 (houseP_of hok)
   repeat' first | exact absurd (‹houseOk h = false›.symm.trans hok) (by decide) | refine ST ?_ | refine ST2 ?_ | intro _ | apply And.intro
   rename_i q1
   refine gFORG 15 l.length (fun q : House × H5 => []) [(1, fun q => hCl q.1 q.2)] (fun q => hOs q.1 q.2) (fun k q => HRep q.1) (h, q1) (h0 := hR) (body := fun k q hk hi => ?_)
   obtain ⟨x, ⟨⟨b1, d1⟩, ⟨b2, d2⟩, ⟨b3, d3⟩, ⟨b4, d4⟩, b5, d5⟩⟩ := q
   replace hi : HRep x := hi
   have hsx := hi.sz
   clear hh1 h1 h2 h3 h4 h5 h6 h7 h8 h9 h10 hsz hR
   by_cases hkl : k < l.length
   · have hR2 : HRep (doM x l[k]) := do_hp hi
     have hs2 := hR2.sz
     have ho1 : houseOk x = true := hi.eq
     have ho2 : houseOk (doM x l[k]) = true := hR2.eq
     have hsm : verdict x l[k] ≠ 0 → x = doM x l[k] := do_same
     repeat' first | exact absurd hkl ‹¬ k < l.length› | exact absurd (‹houseOk (doM x l[k]) = false›.symm.trans ho2) (by decide) | refine ST ?_ | refine ST2 ?_ | intro _ | apply And.intro
     all_goals first
      | (rename_i x9 _ _
         refine gGBACK (doM x l[k], x9.1) hkl (hLx := by rfl) (h := hR2))
      | (rename_i x9 _ _ _
         refine gGBACK (doM x l[k], x9.1) hkl (hLx := by rfl) (h := hR2))
      | trace_state
   · repeat' first | exact absurd ‹k < l.length› hkl | refine ST ?_ | refine ST2 ?_ | intro _ | apply And.intro
     all_goals first | (rw [hun]; done) | (rw [hun]; rfl) | trace_state
 · have hob : houseOk h = false := by simpa using hok
   have hun : unkept h l = upto l.length := if_neg hok
   repeat' first | exact absurd ‹houseOk h = true› hok | refine ST ?_ | refine ST2 ?_ | intro _ | apply And.intro
   rename_i q1
   refine gFORG 15 l.length (fun q : House × H5 × HH × List Int => [(6, .v (.slice q.2.2.1.1 q.2.2.2.length q.2.2.1.2))]) [(1, fun q => hCl q.1 q.2.1)] (fun q => hOs q.1 q.2.1 ++ [slA 3 intL (.slice q.2.2.1.1 q.2.2.2.length q.2.2.1.2) q.2.2.2]) (fun k q => q.1 = h ∧ q.2.2.2 = upto k) (h, q1, (none, 0), []) (h0 := ⟨rfl, rfl⟩) (body := fun k q hk hi => ?_)
   obtain ⟨x, ⟨⟨b1, d1⟩, ⟨b2, d2⟩, ⟨b3, d3⟩, ⟨b4, d4⟩, b5, d5⟩, ⟨e, f⟩, ys⟩ := q
   obtain ⟨i1, i2⟩ : x = h ∧ ys = upto k := hi
   have hsx : HouseSz x := by rw [i1]; exact hsz
   have hox : houseOk x = false := by rw [i1]; exact hob
   have hdx : doM x = fun q => x := funext fun q => do_bad hox
   have hyl : ys.length = k := by rw [i2]; exact upto_len k
   clear hh1 h1 h2 h3 h4 h5 h6 h7 h8 h9 h10
   by_cases hkl : k < l.length
   · have hd : doM x l[k] = x := do_bad hox
     have hs2 : HouseSz (doM x l[k]) := by rw [hd]; exact hsx
     have ho2 : houseOk (doM x l[k]) = false := by rw [hd]; exact hox
     clear hdx
     repeat' first | exact absurd hkl ‹¬ k < l.length› | exact absurd (‹houseOk (doM x l[k]) = true›.symm.trans ho2) (by decide) | refine ST ?_ | refine ST2 ?_ | intro _ | apply And.intro
     all_goals first
      | (rename_i x9 _ _ _ e9 c9 _
         refine gGBACK (doM x l[k], x9.1, (e9, c9), ys ++ [(k : Int)]) hkl (hLx := by rfl) (h := ?_)
         exact ⟨hd.trans i1, by rw [i2]; exact (upto_snoc k).symm⟩)
      | trace_state
   · have hkk : k = l.length := by omega
     subst hkk
     repeat' first | exact absurd ‹l.length < l.length› hkl | refine ST ?_ | refine ST2 ?_ | intro _ | apply And.intro
     all_goals first | (rw [hun, i2]; done) | (rw [hun]; exact i2) | trace_state
end SX
end Go.Proofs.YtejojcoaohlfbaaGreat
