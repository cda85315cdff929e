/- Draws: a right house. -/
import Derived.Test.YtejojcoaohlfbaaGreatFE
import Derived.Test.YtejojcoaohlfbaaGreatFI
import Derived.Test.YtejojcoaohlfbaaGreatAN
import Derived.Test.YtejojcoaohlfbaaGreatAE
import Derived.Test.YtejojcoaohlfbaaGreatLC
namespace Go.Proofs.YtejojcoaohlfbaaGreat
namespace SX
open Go Go.RowKit
set_option linter.unusedVariables false
set_option linter.unusedSimpArgs false
set_option maxRecDepth 10000
set_option maxHeartbeats 1000000
attribute [local irreducible] CD DN OPL AT QL QT CND RETG BKP HL HT HO slA slHo slP ptC pull pulls
attribute [local irreducible] curO keepA RWk IsCur
abbrev hpr (x : House) : Prop := 1 ≤ x.cabins.length ∧ x.cabins.length ≤ 4 ∧ x.rules.seats.length ≤ 4 ∧ x.parties.length ≤ 9 ∧ x.todo.length ≤ 4 ∧ x.jobs.length ≤ 3 ∧ ∀ c ∈ x.cabins, CabinSz c
abbrev WHo (P : House → Prop) (O : List Ass) : Res := RWk (α := House) (ι := H5) P hV hO9 O
instance zcY : HC 210 (∀ (W : World) (d : Kd) (p : Value), IsCur p d →Sp W [cuA d p] 210 #[p] (WHo hpr [cuA d p])) := by
 refine ⟨fun W d p _ => ?_⟩
 refine gENTO (vs := [_]) Tryz.func210 (fun S0 => ?_)
 repeat' first | refine STD ?_ | refine ST ?_ | refine ST2 ?_ | refine ST3 ?_ | intro _ | apply And.intro
 rename_i r hr qr hn hn2 qh nw fnw _ n fn _
 obtain ⟨h, hb⟩ := hn
 obtain ⟨⟨a1, c1⟩, ⟨a2, c2⟩, ⟨a3, c3⟩, ⟨a4, c4⟩, a5, c5⟩ := qh
 obtain ⟨ar, cr⟩ := qr
 dsimp only at hn2
 obtain ⟨g1, g2, g3, g4, g5, g6, g7⟩ := hn2
 obtain ⟨g8, g9⟩ := g2 hr
 have gp : h.parties.length = 0 := by rw [g3]; rfl
 have gt : h.todo.length = 0 := by rw [g4]; rfl
 have g10 : h.rules.seats.length = r.seats.length := by rw [g8]
 have hrr := (rr_of hr).seats
 have hcs : h.cabins.length ≤ h.rules.seats.length := by omega
 refine gFORG 8 9 (fun q : (HH × List Party) × Int × Int => [(7, .v (vi q.2.1))]) [(2, fun q => [.slice a1 h.rules.seats.length c1, vi h.rules.tiers, vi h.rules.room, vi h.rules.size, vi h.rules.period, vi h.rules.window, vi h.rules.rest, vi h.rules.tries, vi h.rules.crew, vi nw, vi q.2.2, .slice q.1.1.1 q.1.2.length q.1.1.2, .slice a3 h.cabins.length c3, .slice a4 h.todo.length c4, .slice a5 h.jobs.length c5])] (fun q => [cuA d p, slA 91 partyL (.slice q.1.1.1 q.1.2.length q.1.1.2) q.1.2]) (fun k q => q.1.2.length ≤ k) (((a2, c2), h.parties), 0, h.turn) (hp := (by first | exact plS PU (plS PU (pl0)) | exact plS PU (plS PU (plS PU (pl0))) | exact plS PU (plS PU (plS PU (plS PU (pl0)))) | exact plS PU (pl0) | exact plS PU (plS PU (plS PU (plS PU (plS PU (plS PU (pl0)))))) | exact plS PU (plS PU (plS PU (plS PU (plS PU (plS PU (plS PU (pl0))))))) | exact plS PU (plS PU (plS PU (plS PU (plS PU (plS PU (plS PU (plS PU (pl0)))))))) | exact plS PU (plS PU (plS PU (plS PU (plS PU (plS PU (plS PU (plS PU (plS PU (pl0))))))))) | exact plS PU (plS PU (plS PU (plS PU (plS PU (plS PU (plS PU (plS PU (plS PU (plS PU (plS PU (plS PU (pl0)))))))))))) | exact plS PU (plS PU (plS PU (plS PU (plS PU (plS PU (plS PU (plS PU (plS PU (plS PU (plS PU (pl0))))))))))) | exact plS PU (plS PU (plS PU (plS PU (plS PU (plS PU (plS PU (plS PU (plS PU (plS PU (pl0)))))))))))) (h0 := Nat.le_of_eq gp) (body := fun k q hk hi => ?_)
 obtain ⟨⟨⟨e1, f1⟩, ps⟩, sc, tu⟩ := q
 have i1 : ps.length ≤ k := hi
 have g11 : 1 ≤ h.cabins.length := by omega
 clear g2 hrr
 by_cases hkn : (k : Int) < n
 ·
  repeat' first | exact absurd hkn ‹¬ (k : Int) < n› | refine STD ?_ | refine ST ?_ | refine ST2 ?_ | refine ST3 ?_ | intro _ | apply And.intro
  all_goals (refine gGBACK (((_, _), _), _, _) (by omega) (hp := (by first | exact plS PU (plS PU (pl0)) | exact plS PU (plS PU (plS PU (pl0))) | exact plS PU (plS PU (plS PU (plS PU (pl0)))) | exact plS PU (pl0) | exact plS PU (plS PU (plS PU (plS PU (plS PU (plS PU (pl0)))))) | exact plS PU (plS PU (plS PU (plS PU (plS PU (plS PU (plS PU (pl0))))))) | exact plS PU (plS PU (plS PU (plS PU (plS PU (plS PU (plS PU (plS PU (pl0)))))))) | exact plS PU (plS PU (plS PU (plS PU (plS PU (plS PU (plS PU (plS PU (plS PU (pl0))))))))) | exact plS PU (plS PU (plS PU (plS PU (plS PU (plS PU (plS PU (plS PU (plS PU (plS PU (plS PU (plS PU (pl0)))))))))))) | exact plS PU (plS PU (plS PU (plS PU (plS PU (plS PU (plS PU (plS PU (plS PU (plS PU (plS PU (pl0))))))))))) | exact plS PU (plS PU (plS PU (plS PU (plS PU (plS PU (plS PU (plS PU (plS PU (plS PU (pl0)))))))))))) (h := ?_); first | exact Nat.le_succ_of_le i1 | exact Nat.le_trans (partyPut_len _ _) (Nat.succ_le_succ i1))
 repeat' first | exact absurd ‹(k : Int) < n› hkn | refine STD ?_ | refine ST ?_ | refine ST2 ?_ | refine ST3 ?_ | intro _ | apply And.intro
 refine gFORG 10 h.cabins.length (fun q : List Cabin × HH × List Int => []) [(2, fun q => [.slice a1 h.rules.seats.length c1, vi h.rules.tiers, vi h.rules.room, vi h.rules.size, vi h.rules.period, vi h.rules.window, vi h.rules.rest, vi h.rules.tries, vi h.rules.crew, vi nw, vi tu, .slice e1 ps.length f1, .slice a3 h.cabins.length c3, .slice q.2.1.1 q.2.2.length q.2.1.2, .slice a5 h.jobs.length c5])] (fun q => [cuA d p, slA 70 (cabinLx 159 199 166) (.slice a3 h.cabins.length c3) q.1, slA 3 intL (.slice q.2.1.1 q.2.2.length q.2.1.2) q.2.2]) (fun k q => q.1.length = h.cabins.length ∧ q.2.2.length ≤ k ∧ ∀ c ∈ q.1, CabinSz c) (h.cabins, (a4, c4), h.todo) (hp := (by first | exact plS PU (plS PU (pl0)) | exact plS PU (plS PU (plS PU (pl0))) | exact plS PU (plS PU (plS PU (plS PU (pl0)))) | exact plS PU (pl0) | exact plS PU (plS PU (plS PU (plS PU (plS PU (plS PU (pl0)))))) | exact plS PU (plS PU (plS PU (plS PU (plS PU (plS PU (plS PU (pl0))))))) | exact plS PU (plS PU (plS PU (plS PU (plS PU (plS PU (plS PU (plS PU (pl0)))))))) | exact plS PU (plS PU (plS PU (plS PU (plS PU (plS PU (plS PU (plS PU (plS PU (pl0))))))))) | exact plS PU (plS PU (plS PU (plS PU (plS PU (plS PU (plS PU (plS PU (plS PU (plS PU (plS PU (plS PU (pl0)))))))))))) | exact plS PU (plS PU (plS PU (plS PU (plS PU (plS PU (plS PU (plS PU (plS PU (plS PU (plS PU (pl0))))))))))) | exact plS PU (plS PU (plS PU (plS PU (plS PU (plS PU (plS PU (plS PU (plS PU (plS PU (pl0)))))))))))) (h0 := ⟨rfl, Nat.le_of_eq gt, g7⟩) (body := fun k9 q hk9 hi9 => ?_)
 obtain ⟨cs, ⟨e2, f2⟩, td⟩ := q
 obtain ⟨j1, j2, j3⟩ : cs.length = h.cabins.length ∧ td.length ≤ k9 ∧ ∀ c ∈ cs, CabinSz c := hi9
 by_cases hkc : k9 < h.cabins.length
 · repeat' first | exact absurd hkc ‹¬ k9 < _› | refine STD ?_ | refine ST ?_ | refine ST2 ?_ | refine ST3 ?_ | intro _ | apply And.intro
   all_goals
    refine dUNC (k := ?_)
    refine gGBACK (cs.set k9 _, (_, _), _) hkc (hp := (by first | exact plS PU (plS PU (pl0)) | exact plS PU (plS PU (plS PU (pl0))) | exact plS PU (plS PU (plS PU (plS PU (pl0)))) | exact plS PU (pl0) | exact plS PU (plS PU (plS PU (plS PU (plS PU (plS PU (pl0)))))) | exact plS PU (plS PU (plS PU (plS PU (plS PU (plS PU (plS PU (pl0))))))) | exact plS PU (plS PU (plS PU (plS PU (plS PU (plS PU (plS PU (plS PU (pl0)))))))) | exact plS PU (plS PU (plS PU (plS PU (plS PU (plS PU (plS PU (plS PU (plS PU (pl0))))))))) | exact plS PU (plS PU (plS PU (plS PU (plS PU (plS PU (plS PU (plS PU (plS PU (plS PU (plS PU (plS PU (pl0)))))))))))) | exact plS PU (plS PU (plS PU (plS PU (plS PU (plS PU (plS PU (plS PU (plS PU (plS PU (plS PU (pl0))))))))))) | exact plS PU (plS PU (plS PU (plS PU (plS PU (plS PU (plS PU (plS PU (plS PU (plS PU (pl0)))))))))))) (h := ?_)
    refine ⟨by rw [List.length_set]; exact j1, ?_, mem_set_of j3 ‹CabinSz _›⟩
    first | exact Nat.le_succ_of_le j2 | exact Nat.le_trans (todoPut_len _ _) (Nat.succ_le_succ j2)
 repeat' first | exact absurd ‹k9 < _› hkc | refine STD ?_ | refine ST ?_ | refine ST2 ?_ | refine ST3 ?_ | intro _ | apply And.intro
 refine gFORG 11 h.jobs.length (fun q : List Int => []) [(2, fun q => [.slice a1 h.rules.seats.length c1, vi h.rules.tiers, vi h.rules.room, vi h.rules.size, vi h.rules.period, vi h.rules.window, vi h.rules.rest, vi h.rules.tries, vi h.rules.crew, vi nw, vi tu, .slice e1 ps.length f1, .slice a3 h.cabins.length c3, .slice e2 td.length f2, .slice a5 h.jobs.length c5])] (fun q => [cuA d p, slA 3 intL (.slice a5 h.jobs.length c5) q]) (fun k q => q.length = h.jobs.length) h.jobs (hp := (by first | exact plS PU (plS PU (pl0)) | exact plS PU (plS PU (plS PU (pl0))) | exact plS PU (plS PU (plS PU (plS PU (pl0)))) | exact plS PU (pl0) | exact plS PU (plS PU (plS PU (plS PU (plS PU (plS PU (pl0)))))) | exact plS PU (plS PU (plS PU (plS PU (plS PU (plS PU (plS PU (pl0))))))) | exact plS PU (plS PU (plS PU (plS PU (plS PU (plS PU (plS PU (plS PU (pl0)))))))) | exact plS PU (plS PU (plS PU (plS PU (plS PU (plS PU (plS PU (plS PU (plS PU (pl0))))))))) | exact plS PU (plS PU (plS PU (plS PU (plS PU (plS PU (plS PU (plS PU (plS PU (plS PU (plS PU (plS PU (pl0)))))))))))) | exact plS PU (plS PU (plS PU (plS PU (plS PU (plS PU (plS PU (plS PU (plS PU (plS PU (plS PU (pl0))))))))))) | exact plS PU (plS PU (plS PU (plS PU (plS PU (plS PU (plS PU (plS PU (plS PU (plS PU (pl0)))))))))))) (h0 := rfl) (body := fun k8 q hk8 hi8 => ?_)
 have j4 : q.length = h.jobs.length := hi8
 by_cases hkj : k8 < h.jobs.length
 · repeat' first | exact absurd hkj ‹¬ k8 < _› | refine STD ?_ | refine ST ?_ | refine ST2 ?_ | refine ST3 ?_ | intro _ | apply And.intro
   all_goals
    first
    | (refine gGBACK (q.set k8 _) hkj (hp := (by first | exact plS PU (plS PU (pl0)) | exact plS PU (plS PU (plS PU (pl0))) | exact plS PU (plS PU (plS PU (plS PU (pl0)))) | exact plS PU (pl0) | exact plS PU (plS PU (plS PU (plS PU (plS PU (plS PU (pl0)))))) | exact plS PU (plS PU (plS PU (plS PU (plS PU (plS PU (plS PU (pl0))))))) | exact plS PU (plS PU (plS PU (plS PU (plS PU (plS PU (plS PU (plS PU (pl0)))))))) | exact plS PU (plS PU (plS PU (plS PU (plS PU (plS PU (plS PU (plS PU (plS PU (pl0))))))))) | exact plS PU (plS PU (plS PU (plS PU (plS PU (plS PU (plS PU (plS PU (plS PU (plS PU (plS PU (plS PU (pl0)))))))))))) | exact plS PU (plS PU (plS PU (plS PU (plS PU (plS PU (plS PU (plS PU (plS PU (plS PU (plS PU (pl0))))))))))) | exact plS PU (plS PU (plS PU (plS PU (plS PU (plS PU (plS PU (plS PU (plS PU (plS PU (pl0)))))))))))) (h := ?_); rw [List.length_set]; exact j4)
    | (refine gGBACK q hkj (hp := (by first | exact plS PU (plS PU (pl0)) | exact plS PU (plS PU (plS PU (pl0))) | exact plS PU (plS PU (plS PU (plS PU (pl0)))) | exact plS PU (pl0) | exact plS PU (plS PU (plS PU (plS PU (plS PU (plS PU (pl0)))))) | exact plS PU (plS PU (plS PU (plS PU (plS PU (plS PU (plS PU (pl0))))))) | exact plS PU (plS PU (plS PU (plS PU (plS PU (plS PU (plS PU (plS PU (pl0)))))))) | exact plS PU (plS PU (plS PU (plS PU (plS PU (plS PU (plS PU (plS PU (plS PU (pl0))))))))) | exact plS PU (plS PU (plS PU (plS PU (plS PU (plS PU (plS PU (plS PU (plS PU (plS PU (plS PU (plS PU (pl0)))))))))))) | exact plS PU (plS PU (plS PU (plS PU (plS PU (plS PU (plS PU (plS PU (plS PU (plS PU (plS PU (pl0))))))))))) | exact plS PU (plS PU (plS PU (plS PU (plS PU (plS PU (plS PU (plS PU (plS PU (plS PU (pl0)))))))))))) (h := ?_); exact j4)
 repeat' first | exact absurd ‹k8 < _› hkj | refine STD ?_ | refine ST ?_ | refine ST2 ?_ | refine ST3 ?_ | intro _ | apply And.intro
 all_goals dsimp only at *
 all_goals first | omega | exact (j3 _ (by assumption)).1 | exact (j3 _ (by assumption)).2.1 | exact (j3 _ (by assumption)).2.2
end SX
end Go.Proofs.YtejojcoaohlfbaaGreat
