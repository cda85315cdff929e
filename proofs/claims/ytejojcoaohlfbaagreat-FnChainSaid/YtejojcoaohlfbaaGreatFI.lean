/- Draws: wheels and cabins that may be wrong. -/
import Derived.Test.YtejojcoaohlfbaaGreatLC
import Derived.Test.YtejojcoaohlfbaaGreatA9
import Derived.Test.YtejojcoaohlfbaaGreatFE
namespace Go.Proofs.YtejojcoaohlfbaaGreat
namespace SX
open Go Go.RowKit
set_option linter.unusedVariables false
set_option linter.unusedSimpArgs false
set_option maxRecDepth 10000
set_option maxHeartbeats 1000000
attribute [local irreducible] CD DN OPL AT QL QT CND RETG BKP HL HT HO slA slHo slP ptC pull pulls
attribute [local irreducible] curO keepA RWk IsCur
abbrev RuH (cs : List Value) (r : Rules) (pre : List Ass) : Prop := ∃ (a : Option Addr) (c : Nat), cs = [.slice a r.seats.length c, vi r.tiers, vi r.room, vi r.size, vi r.period, vi r.window, vi r.rest, vi r.tries, vi r.crew] ∧ pre = [slA 3 intL (.slice a r.seats.length c) r.seats]
instance zdi : HC 303 (∀ (W : World) (d : Kd) (p : Value) (n : Nat) (x1 x2 x3 x4 x5 x6 x7 x8 : Int) (now : Int) (a : Option Addr) (c : Nat), IsCur p d →Sp W [cuA d p] 303 #[p, .agg #[.slice a n c, vi x1, vi x2, vi x3, vi x4, vi x5, vi x6, vi x7, vi x8], vi now] (zcb [cuA d p])) := by
 refine ⟨fun W d p n x1 x2 x3 x4 x5 x6 x7 x8 now a c _ => ?_⟩
 refine gENTO (vs := [_, _, _]) Tryz.func303 (fun S0 => ?_)
 repeat' first | refine STD ?_ | refine ST ?_ | refine ST2 ?_ | refine ST3 ?_ | intro _ | apply And.intro
 all_goals first | trivial
instance zdH : HC 213 (∀ (W : World) (d : Kd) (p : Value) (cs : List Value) (r : Rules) (pre : List Ass) (now : Int), IsCur p d → RuH cs r pre →Sp W (cuA d p :: pre) 213 #[p, .agg cs.toArray, vi now] (zcb (cuA d p :: pre))) := by
 refine ⟨fun W d p cs r pre now _ ⟨a, c, e1, e2⟩ => ?_⟩
 subst e1 e2
 refine gENTO (vs := [_, _, _]) Tryz.func213 (fun S0 => ?_)
 repeat' first | refine STD ?_ | refine ST ?_ | refine ST2 ?_ | refine ST3 ?_ | intro _ | apply And.intro
 all_goals first | trivial
theorem zcL {x : Wheel} {n k : Nat} (h : x.spoke.flatten.length ≤ n) (hk : k < x.spoke.length) : x.spoke[k].length ≤ n := by
 obtain ⟨l⟩ := x
 have h2 : ∀ (l : List (List Pin)) (k : Nat) (hk : k < l.length), l[k].length ≤ l.flatten.length := by
  intro l
  induction l with
  | nil => intro k hk; simp at hk
  | cons y l ih =>
    intro k hk
    cases k with
    | zero => simp
    | succ k => have := ih k (by simpa using hk); simp at this ⊢; omega
 exact Nat.le_trans (h2 l k hk) h
instance zdJ : HC 308 (∀ (W : World) (d : Kd) (p : Value), IsCur p d →Sp W [cuA d p] 308 #[p] (WWh (fun x => x.spoke.length ≤ 1048576 ∧ x.spoke.flatten.length ≤ 1048576) [cuA d p])) := by
 refine ⟨fun W d p _ => ?_⟩
 refine gENTO (vs := [_]) Tryz.func308 (fun S0 => ?_)
 repeat' first | (refine idHO ?_; refine goP ?_; refine hAPP (hlen := by refine Nat.le_trans (Nat.add_le_add_right (zcL (‹_ = 9 ∧ _ ≤ 18› : _ = 9 ∧ _ ≤ 18).2 _) _) ?_; decide) (k := ?_)) | refine STD ?_ | refine ST ?_ | refine ST2 ?_ | refine ST3 ?_ | intro _ | apply And.intro
 all_goals dsimp only at *
 all_goals first | (simp only [List.length_set, List.length_append, List.length_cons, List.length_nil, List.length_take]; omega) | (refine Nat.le_trans (flat_set_le _ _ _) ?_; rw [List.length_append]; refine Nat.le_trans (Nat.add_le_add (‹_ = 9 ∧ _ ≤ 18› : _ = 9 ∧ _ ≤ 18).2 (Nat.add_le_add_right (zcL (‹_ = 9 ∧ _ ≤ 18› : _ = 9 ∧ _ ≤ 18).2 _) _)) ?_; simp; done) | (simp only [List.flatten_append, List.length_append, List.flatten_cons, List.flatten_nil, List.length_nil, List.append_nil]; omega) | (refine Nat.le_trans (flat_take_le _ _) ?_; omega) | omega
instance zc4 : HC 309 (∀ (W : World) (d : Kd) (p : Value), IsCur p d →Sp W [cuA d p] 309 #[p] (zc0 [cuA d p])) := by
 refine ⟨fun W d p _ => ?_⟩
 refine gENTO (vs := [_]) Tryz.func309 (fun S0 => ?_)
 repeat' first | refine STD ?_ | refine ST ?_ | refine ST2 ?_ | refine ST3 ?_ | intro _ | apply And.intro
 all_goals dsimp only at *
 all_goals first | omega
instance zde : HC 214 (∀ (W : World) (d : Kd) (p : Value), IsCur p d →Sp W [cuA d p] 214 #[p] (zc0 [cuA d p])) := by
 refine ⟨fun W d p _ => ?_⟩
 refine gENTO (vs := [_]) Tryz.func214 (fun S0 => ?_)
 repeat' first | refine STD ?_ | refine ST ?_ | refine ST2 ?_ | refine ST3 ?_ | intro _ | apply And.intro
 all_goals dsimp only at *
 all_goals first | omega | assumption | exact (‹CabinSz _›).1 | exact (‹CabinSz _›).2.1 | exact (‹CabinSz _›).2.2
end SX
end Go.Proofs.YtejojcoaohlfbaaGreat
