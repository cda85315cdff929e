/- Draws: rules. -/
import Derived.Test.YtejojcoaohlfbaaGreatFE
import Derived.Test.YtejojcoaohlfbaaGreatA9
namespace Go.Proofs.YtejojcoaohlfbaaGreat
namespace SX
open Go Go.RowKit
set_option linter.unusedVariables false
set_option linter.unusedSimpArgs false
set_option maxRecDepth 10000
set_option maxHeartbeats 1000000
attribute [local irreducible] CD DN OPL AT QL QT CND RETG BKP HL HT HO slA slHo slP ptC pull pulls
attribute [local irreducible] curO keepA RWk IsCur
theorem allSeats_snoc' {l : List Int} {x : Int} : allSeats (l ++ [x]) = (allSeats l && inB x 1 60) := by
  induction l with
  | nil => simp [allSeats]
  | cons y l ih => simp [allSeats, ih, Bool.and_assoc]
instance s5Right_c : HC 211 (∀ (W : World) (d : Kd) (p : Value), IsCur p d →Sp W [cuA d p] 211 #[p] (WRu (fun r => rulesOk r = true) [cuA d p])) := by
 refine ⟨fun W d p _ => ?_⟩
 refine gENTO (vs := [_]) Tryz.func211 (fun S0 => gNILN 3 intL ?_)
 repeat' first | refine STD ?_ | refine ST ?_ | refine ST2 ?_ | refine ST3 ?_ | intro _ | apply And.intro
 rename_i x1 f1 q1 x2 f2 q2 x3 f3 q3 x4 f4 q4 x5 f5 q5 x6 f6 q6 x7 f7 q7 x8 f8 q8 x9 f9 q9
 refine gFORG 5 4 (fun q : HH × List Int => []) [(1, fun q => [.slice q.1.1 q.2.length q.1.2, vi (wr (1 + x1)), vi (wr (2 + x2)), vi (wr (1 + x3)), vi (wr (1 + x4)), vi (wr (1 + x5)), vi x6, vi (wr (1 + x7)), vi (wr (1 + x8))])] (fun q => [cuA d p, slA 3 intL (.slice q.1.1 q.2.length q.1.2) q.2]) (fun k q => q.2.length = k ∧ k ≤ 3 ∧ allSeats q.2 = true) ((none, 0), []) (hp := (by first | exact plS PU (plS PU (pl0)) | exact plS PU (plS PU (plS PU (pl0))) | exact plS PU (plS PU (plS PU (plS PU (pl0)))) | exact plS PU (pl0) | exact plS PU (plS PU (plS PU (plS PU (plS PU (plS PU (pl0)))))) | exact plS PU (plS PU (plS PU (plS PU (plS PU (plS PU (plS PU (pl0))))))) | exact plS PU (plS PU (plS PU (plS PU (plS PU (plS PU (plS PU (plS PU (pl0)))))))) | exact plS PU (plS PU (plS PU (plS PU (plS PU (plS PU (plS PU (plS PU (plS PU (pl0))))))))) | exact plS PU (plS PU (plS PU (plS PU (plS PU (plS PU (plS PU (plS PU (plS PU (plS PU (plS PU (plS PU (pl0)))))))))))) | exact plS PU (plS PU (plS PU (plS PU (plS PU (plS PU (plS PU (plS PU (plS PU (plS PU (plS PU (pl0))))))))))) | exact plS PU (plS PU (plS PU (plS PU (plS PU (plS PU (plS PU (plS PU (plS PU (plS PU (pl0)))))))))))) (h0 := ⟨rfl, by omega, rfl⟩) (body := fun k q hk hi => ?_)
 obtain ⟨⟨e, f⟩, xs⟩ := q
 obtain ⟨i1, i2, i3⟩ : xs.length = k ∧ k ≤ 3 ∧ allSeats xs = true := hi
 have w1 : wr (1 + x9) = 1 + x9 := wr_of (by omega) (by omega)
 repeat' first | refine STD ?_ | refine ST ?_ | refine ST2 ?_ | refine ST3 ?_ | intro _ | apply And.intro
 · refine gGBACK ((_, _), _) (by omega) (hp := (by first | exact plS PU (plS PU (pl0)) | exact plS PU (plS PU (plS PU (pl0))) | exact plS PU (plS PU (plS PU (plS PU (pl0)))) | exact plS PU (pl0) | exact plS PU (plS PU (plS PU (plS PU (plS PU (plS PU (pl0)))))) | exact plS PU (plS PU (plS PU (plS PU (plS PU (plS PU (plS PU (pl0))))))) | exact plS PU (plS PU (plS PU (plS PU (plS PU (plS PU (plS PU (plS PU (pl0)))))))) | exact plS PU (plS PU (plS PU (plS PU (plS PU (plS PU (plS PU (plS PU (plS PU (pl0))))))))) | exact plS PU (plS PU (plS PU (plS PU (plS PU (plS PU (plS PU (plS PU (plS PU (plS PU (plS PU (plS PU (pl0)))))))))))) | exact plS PU (plS PU (plS PU (plS PU (plS PU (plS PU (plS PU (plS PU (plS PU (plS PU (plS PU (pl0))))))))))) | exact plS PU (plS PU (plS PU (plS PU (plS PU (plS PU (plS PU (plS PU (plS PU (plS PU (pl0)))))))))))) (h := ?_)
   rename_i x _ _ _ _ _ _ _
   have w2 : IntKind.i64.wrap (2 + x) = 2 + x := wr_of (by omega) (by omega)
   dsimp only
   refine ⟨by simp [i1], by omega, ?_⟩
   rw [allSeats_snoc', i3, w2]
   simp only [inB, Bool.true_and, Bool.and_eq_true, decide_eq_true_eq]
   omega
 · dsimp only at *
   simp only [rulesOk, i3, inB, Bool.and_true, Bool.and_eq_true, decide_eq_true_eq]
   refine ⟨⟨⟨⟨⟨⟨⟨⟨?_, ?_⟩, ?_⟩, ?_⟩, ?_⟩, ?_⟩, ?_⟩, ?_⟩, ?_⟩ <;> first | omega | (rw [wr_of (by omega) (by omega)]; omega) | trace_state
end SX
end Go.Proofs.YtejojcoaohlfbaaGreat
