/- The reference's side: a look. -/
import Derived.Test.YtejojcoaohlfbaaGreatAQ
import Derived.Test.YtejojcoaohlfbaaGreatAI
import Derived.Test.YtejojcoaohlfbaaGreatSx9
namespace Go.Proofs.YtejojcoaohlfbaaGreat
namespace SX
open Go Go.RowKit
set_option linter.unusedVariables false
set_option linter.unusedSimpArgs false
set_option maxRecDepth 10000
set_option maxHeartbeats 1000000
attribute [local irreducible] CD DN OPL AT QL QT CND RETG BKP HL HT HO slA slHo slP ptC pull pulls
instance sScan_c : HC 255 (∀ (W : World) (cs : List Value) (h : House) (cabin : Int), HsR W cs h → HouseSz h →Sp W [] 255 #[.agg cs.toArray, vi cabin] (RT2 (RHs (scan h cabin).1) (RO 3 intL (scan h cabin).2))) := by
 refine ⟨fun W cs h cabin hh hsz => ?_⟩
 have hh1 := hh; obtain ⟨a1, c1, a2, c2, a3, c3, a4, c4, a5, c5, rfl, h1, h2, h3, h4, h5, h6, h7, h8, h9, h10⟩ := hh
 refine gENT (vs := [_, _]) Tryz.func255 ?_
 by_cases hb : hasCab h cabin = true
 · obtain ⟨hR, hc0, hc1⟩ := hasCab_rep hb
   obtain ⟨hE1, hE2⟩ := expire_hp hb
   have hsc : scan h cabin = scanM (expireM h cabin) cabin := by rw [scan, if_pos hb]
   repeat' first | refine ST ?_ | intro _ | apply And.intro
   iterate 2 exact absurd (‹hasCab h cabin = false›.symm.trans hb) (by decide)
   rename_i q0 e0 he0 hb0 q1
   refine gLPG (fun q : House × H5 × HH × List Int => [(7, .v (.slice q.2.2.1.1 q.2.2.2.length q.2.2.1.2))]) [(2, fun q => hCl q.1 q.2.1)] (fun q => hOs q.1 q.2.1 ++ [slA 3 intL (.slice q.2.2.1.1 q.2.2.2.length q.2.2.1.2) q.2.2.2])
    (fun q => HRep q.1 ∧ hasCab q.1 cabin = true ∧ q.2.2.2.length + waits q.1.parties ≤ 1048576 ∧ scan h cabin = ((scanM q.1 cabin).1, q.2.2.2 ++ (scanM q.1 cabin).2)) (fun q => waits q.1.parties) (expireM h cabin, q1, (e0, 0), [])
    (h0 := ⟨hE1, hE2, by have := waits_le (expireM h cabin).parties; have := hE1.len; simp only [List.length_nil]; omega, hsc⟩) (body := fun q hi => ?_)
   obtain ⟨x, ⟨⟨b1, d1⟩, ⟨b2, d2⟩, ⟨b3, d3⟩, ⟨b4, d4⟩, b5, d5⟩, ⟨e, f⟩, ys⟩ := q
   obtain ⟨i1, i2, i3, i4⟩ : HRep x ∧ hasCab x cabin = true ∧ ys.length + waits x.parties ≤ 1048576 ∧ scan h cabin = ((scanM x cabin).1, ys ++ (scanM x cabin).2) := hi
   have hn := nextM_eq i2
   obtain ⟨_, _, ic1⟩ := hasCab_rep i2
   by_cases hz : nextM x cabin = 0
   · have hzb : decide (nextM x cabin = 0) = true := decide_eq_true hz
     have he9 := scanM_end (h := x) (cabin := cabin) (by rw [hn]; exact hz)
     repeat' first | refine ST ?_ | intro _ | apply And.intro
     all_goals first | (rw [i4, he9]; rfl) | (rw [i4, he9]; exact (List.append_nil ys).symm) | (rename_i n9 _ _ _ _ _; exact absurd hz n9)
   · have hzb : decide (nextM x cabin = 0) = false := decide_eq_false hz
     have hz2 : nextOffer x cabin ≠ 0 := by rw [hn]; exact hz
     have hst := scanM_step hz2
     obtain ⟨o1, o2⟩ := offered_hp hz2
     have how := offered_waits hz2
     repeat' first | refine ST ?_ | intro _ | apply And.intro
     all_goals first
      | (rename_i n9; exact absurd n9 hz)
      | (rename_i r9 n9 u9 u8 e9 c9 nn9
         refine gLBK (offeredM x cabin, r9, (e9, c9), ys ++ [nextM x cabin]) (by show waits (offeredM x cabin).parties < waits x.parties; omega) (hLx := by rfl) (h := ?_)
         refine ⟨o1, o2, ?_, ?_⟩
         · show (ys ++ [nextM x cabin]).length + waits (offeredM x cabin).parties ≤ 1048576
           simp only [List.length_append, List.length_cons, List.length_nil]; omega
         · show scan h cabin = ((scanM (offeredM x cabin) cabin).1, (ys ++ [nextM x cabin]) ++ (scanM (offeredM x cabin) cabin).2)
           rw [i4, hst, hn]; simp)
      | trace_state
 · repeat' first | refine ST ?_ | intro _ | apply And.intro
   all_goals first | exact absurd ‹hasCab h cabin = true› hb | (rw [scan, if_neg hb])
end SX
end Go.Proofs.YtejojcoaohlfbaaGreat
