/- The program's side: a house that settles. -/
import Derived.Test.YtejojcoaohlfbaaGreatCF
namespace Go.Proofs.YtejojcoaohlfbaaGreat
namespace SX
open Go Go.RowKit
set_option linter.unusedVariables false
set_option linter.unusedSimpArgs false
set_option maxRecDepth 10000
set_option maxHeartbeats 1000000
attribute [local irreducible] CD DN OPL AT QL QT CND RETG BKP HL HT HO slA slHo slP ptC pull pulls
set_option maxHeartbeats 8000000
instance zc6 : HC 60 (∀ (W : World) (cs : List Value) (h : House) (most : Int), HsR W cs h → HouseSz h →Sp W [] 60 #[.agg cs.toArray, vi most] (RT2 (RHs (zb h most).1) (RO 3 intL (zb h most).2))) := by
 refine ⟨fun W cs h most hh hsz => ?_⟩
 have hh1 := hh; obtain ⟨a1, c1, a2, c2, a3, c3, a4, c4, a5, c5, rfl, h1, h2, h3, h4, h5, h6, h7, h8, h9, h10⟩ := hh
 have hsb : ∀ c ∈ h.cabins, c.wheel.spoke.flatten.length ≤ 1048576 := fun c hc => (hsz.2.2.2.2.2 c hc).2.2
 have hN : ((zh most : Nat) : Int) = min (max most 0) 20 := by unfold zh; omega
 refine gENT (vs := [_, _]) Tryz.func60 (gNILN 3 intL ?_)
 by_cases hok : houseOk h = true
 · have hR := houseP_iff.1 (houseP_of hok)
   have hst : zb h most = za (zh most) h [] := if_pos hok
   rw [hst]
   repeat' first | refine ST ?_ | refine ST2 ?_ | refine ST3 ?_ | intro _ | apply And.intro
   · exact absurd (‹houseOk h = false›.symm.trans hok) (by decide)
   · exact absurd (‹houseOk h = false›.symm.trans hok) (by decide)
   rename_i q1 hx0
   refine gFORG 8 (zh most) (fun q : House × H5 × HH × List Int => [(7, .v (.slice q.2.2.1.1 q.2.2.2.length q.2.2.1.2))]) [(2, fun q => hCl q.1 q.2.1)] (fun q => hOs q.1 q.2.1 ++ [slA 3 intL (.slice q.2.2.1.1 q.2.2.2.length q.2.2.1.2) q.2.2.2]) (fun k q => HRep q.1 ∧ q.2.2.2.length ≤ k * 1048576 ∧ za (zh most) h [] = za (zh most - k) q.1 q.2.2.2) (h, q1, (none, 0), []) (h0 := ⟨hR, by simp, rfl⟩) (body := fun k q hk hi => ?_)
   obtain ⟨x, ⟨⟨b1, d1⟩, ⟨b2, d2⟩, ⟨b3, d3⟩, ⟨b4, d4⟩, b5, d5⟩, ⟨e, f⟩, ys⟩ := q
   obtain ⟨i1, i2, i3⟩ : HRep x ∧ ys.length ≤ k * 1048576 ∧ za (zh most) h [] = za (zh most - k) x ys := hi
   have hsx := i1.sz
   have hsd := (zp i1).sz
   have hra := zA (zp i1)
   have hla := zaV (drained x) hsd
   by_cases hkl : k < zh most
   · have e9 : zh most - k = (zh most - (k + 1)) + 1 := by omega
     have hk20 : k < 20 := by omega
     have hyl : ys.length + (zd (drained x)).2.length ≤ 33554432 := by have := Nat.mul_le_mul_right 1048576 (show k ≤ 19 by omega); omega
     rw [e9] at i3
     by_cases hid : (zd (drained x)).2 = []
     · rw [zam hid] at i3
       repeat' first | refine ST ?_ | refine ST2 ?_ | refine ST3 ?_ | intro _ | apply And.intro
       all_goals first | (exfalso; omega) | (rw [i3]; done) | (rw [i3]; rfl) | (rw [i3, hid]; exact (List.append_nil ys)) | (rw [i3, hid]; exact (List.append_nil ys).symm) | (exfalso; rw [hid] at *; simp at *; done)
     · rw [zaZ hid] at i3
       have hid2 : (zd (drained x)).2.length ≠ 0 := fun h9 => hid (List.eq_nil_of_length_eq_zero h9)
       repeat' first | refine ST ?_ | refine ST2 ?_ | refine ST3 ?_ | intro _ | apply And.intro
       all_goals first
        | (exfalso; omega)
        | exact absurd (by have h9 : ((zd (drained x)).2.length : Int) = 0 := ‹_›
                           omega) hid2
        | (rename_i x9 e9 c9 hn9 ha9
           refine gGBACK ((zd (drained x)).1, x9.1, (e9, c9), ys ++ (zd (drained x)).2) hkl (hLx := by rfl) (h := ?_)
           refine ⟨hra, ?_, i3⟩
           dsimp only at *
           rw [List.length_append]; omega)
   · have e0 : zh most - k = 0 := by omega
     rw [e0] at i3
     repeat' first | refine ST ?_ | refine ST2 ?_ | refine ST3 ?_ | intro _ | apply And.intro
     all_goals first | (exfalso; omega) | (rw [i3]; rfl)
 · have hst : zb h most = (h, []) := if_neg hok
   rw [hst]
   repeat' first | refine ST ?_ | refine ST2 ?_ | refine ST3 ?_ | intro _ | apply And.intro
   all_goals first | exact absurd ‹houseOk h = true› hok | rfl
end SX
end Go.Proofs.YtejojcoaohlfbaaGreat
