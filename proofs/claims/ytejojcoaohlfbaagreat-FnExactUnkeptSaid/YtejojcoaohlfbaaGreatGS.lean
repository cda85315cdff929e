/- The reference's side: requests behind which a wrong house is not kept. -/
import Derived.Test.YtejojcoaohlfbaaGreatDN
import Derived.Test.YtejojcoaohlfbaaGreatFU
import Derived.Test.YtejojcoaohlfbaaGreatMdb3
namespace Go.Proofs.YtejojcoaohlfbaaGreat
namespace SX
open Go Go.RowKit
set_option linter.unusedVariables false
set_option linter.unusedSimpArgs false
set_option maxRecDepth 10000
set_option maxHeartbeats 1000000
attribute [local irreducible] CD DN OPL AT QL QT CND RETG BKP HL HT HO slA slHo slP ptC pull pulls
set_option maxHeartbeats 4000000
theorem sUnk_bad : ∀ (W : World) (cs : List Value) (h : House) (l : List Req) (v : Value), HsR W cs h → HouseSz h → Rs reqL W v l → l.length ≤ 1048576 → houseOk h = false → Sp W [] 20 #[.agg cs.toArray, v] (RO 3 intL (unkept h l)) := by
 intro W cs h l v hh hsz hv0 hln hob
 obtain ⟨a9, c9, rfl, hc9, hr9⟩ := hv0
 have hh1 := hh; obtain ⟨a1, c1, a2, c2, a3, c3, a4, c4, a5, c5, rfl, h1, h2, h3, h4, h5, h6, h7, h8, h9, h10⟩ := hh
 refine gENT (vs := [_, _]) Tryz.func20 ?_
 have hok : ¬ houseOk h = true := by rw [hob]; decide
 have hun : unkept h l = upto l.length := if_neg hok
 repeat' first | exact absurd ‹houseOk h = true› hok | refine ST ?_ | refine ST2 ?_ | intro _ | apply And.intro
 rename_i e0 hn0
 refine gFORG 6 l.length (fun q : Bool × House × H5 × HH × List Int => [(5, .v (.slice q.2.2.2.1.1 q.2.2.2.2.length q.2.2.2.1.2))]) [(0, fun q => hCl q.2.1 q.2.2.1)] (fun q => Bool.rec [slA 3 intL (.slice q.2.2.2.1.1 q.2.2.2.2.length q.2.2.2.1.2) q.2.2.2.2] (hOs q.2.1 q.2.2.1 ++ [slA 3 intL (.slice q.2.2.2.1.1 q.2.2.2.2.length q.2.2.2.1.2) q.2.2.2.2]) q.1) (fun k q => q.2.1 = h ∧ q.2.2.2.2 = upto k ∧ (q.1 = false → HsR W (hCl q.2.1 q.2.2.1) q.2.1)) (false, h, ((a1, c1), (a2, c2), (a3, c3), (a4, c4), a5, c5), (e0, 0), []) (h0 := ⟨rfl, rfl, fun _ => hh1⟩) (body := fun k q hk hi => ?_)
 obtain ⟨own, x, ⟨⟨b1, d1⟩, ⟨b2, d2⟩, ⟨b3, d3⟩, ⟨b4, d4⟩, b5, d5⟩, ⟨e, f⟩, ys⟩ := q
 obtain ⟨i1, i2, hrd⟩ : x = h ∧ ys = upto k ∧ (own = false → HsR W (hCl x ((b1, d1), (b2, d2), (b3, d3), (b4, d4), b5, d5)) x) := hi
 have hsx : HouseSz x := by rw [i1]; exact hsz
 have hox : houseOk x = false := by rw [i1]; exact hob
 have hyl : ys.length = k := by rw [i2]; exact upto_len k
 clear hh1 h1 h2 h3 h4 h5 h6 h7 h8 h9 h10
 by_cases hkl : k < l.length
 · have hd : doM x l[k] = x := do_bad hox
   have hs2 : HouseSz (doM x l[k]) := by rw [hd]; exact hsx
   have ho2 : houseOk (doM x l[k]) = false := by rw [hd]; exact hox
   have hsb : ∀ c ∈ (doM x l[k]).cabins, c.wheel.spoke.flatten.length ≤ 1048576 := fun c hc => (hs2.2.2.2.2.2 c hc).2.2
   cases own
   · replace hrd := hrd rfl
     repeat' first | exact absurd hkl ‹¬ k < l.length› | exact absurd (‹houseOk (doM x l[k]) = true›.symm.trans ho2) (by decide) | refine ST ?_ | refine ST2 ?_ | intro _ | apply And.intro
     all_goals first
      | (rename_i x9 _ _ _ e9 c9 _
         refine gGBACK (true, doM x l[k], x9.1, (e9, c9), ys ++ [(k : Int)]) hkl (hLx := by rfl) (h := ?_)
         exact ⟨hd.trans i1, by rw [i2]; exact (upto_snoc k).symm, fun w => by cases w⟩)
      | trace_state
   · clear hrd
     repeat' first | exact absurd hkl ‹¬ k < l.length› | exact absurd (‹houseOk (doM x l[k]) = true›.symm.trans ho2) (by decide) | refine ST ?_ | refine ST2 ?_ | intro _ | apply And.intro
     all_goals first
      | (rename_i x9 _ _ _ e9 c9 _
         refine gGBACK (true, doM x l[k], x9.1, (e9, c9), ys ++ [(k : Int)]) hkl (hLx := by rfl) (h := ?_)
         exact ⟨hd.trans i1, by rw [i2]; exact (upto_snoc k).symm, fun w => by cases w⟩)
      | trace_state
 · have hkk : k = l.length := by omega
   subst hkk
   cases own <;> (repeat' first | exact absurd ‹l.length < l.length› hkl | refine ST ?_ | refine ST2 ?_ | intro _ | apply And.intro) <;> first | (rw [hun, i2]; done) | (rw [hun]; exact i2) | trace_state
end SX
end Go.Proofs.YtejojcoaohlfbaaGreat
