/- What a history of requests and replies says: seats that upgrades gave back; offers. -/
import Derived.Test.YtejojcoaohlfbaaGreatJB1
import Derived.Test.YtejojcoaohlfbaaGreatHG
namespace Go.Proofs.YtejojcoaohlfbaaGreat
namespace SX
open Go Go.RowKit
set_option linter.unusedVariables false
set_option linter.unusedSimpArgs false
set_option maxRecDepth 10000
set_option maxHeartbeats 1000000
attribute [local irreducible] CD DN OPL AT QL QT CND RETG BKP HL HT HO slA slHo slP ptC pull pulls
theorem iAccMoved_t : ∀ (W : World) (l : List Req) (rs : List (Int × List Int)) (v u : Value) (b : Nat) (z : Int), Rs reqL W v l → Rs (replyL 3) W u rs → ElemAt W (some ⟨b, 0, none⟩) 0 [vi z] → l.length ≤ 1048576 → Sp W [] 124 #[v, u, .func (.func 125) #[] #[.pointer (some ⟨b, 0, none⟩)]] (RV (vi (accN l rs (fun j => j.from' == z) l.length))) := by
 intro W l rs v u b z hv0 hu0 hb hln
 have hv1 := hv0; have hu1 := hu0
 obtain ⟨a, c, rfl, hc, hr⟩ := hv0
 obtain ⟨a2, c2, rfl, hc2, hr2⟩ := hu0
 refine gENT (vs := [_, _, _]) Tryz.func124 ?_
 repeat' first | refine ST ?_ | refine ST2 ?_ | intro _ | apply And.intro
 refine gFORA 14 l.length (fun n => [(7, I n)]) (fun i n => n = accN l rs (fun j => j.from' == z) i) 0 rfl fun k n hk hv => ?_
 have hrg := acc_rng l rs (fun j => j.from' == z) k
 by_cases hkl : k < l.length
 · have hon := acc_on (rs := rs) (t := fun j => j.from' == z) hkl
   repeat' first | exact absurd hkl ‹¬ k < l.length› | (refine idAT ?_; refine aCa ?_; refine aCV (f := 125) (hcon := by intro c w hw; exact c w b z _ (ElemAt.fr hb hw.fr)) (k := ?_)) | refine ST ?_ | refine ST2 ?_ | intro _ | apply And.intro
   all_goals try simp only [Int.toNat_natCast] at *
   all_goals cases hj : joinOf l rs l[k].id k with
    | none => first | (exfalso; omega) | (simp only [hj] at *; rw [hon, hv]; simp [*]; done) | (exfalso; simp [hj] at *; done) | trace_state
    | some j =>
      have e9 : inB j.size 1 6 = true → wr (accN l rs (fun j => j.from' == z) k + j.size) = accN l rs (fun j => j.from' == z) k + j.size := fun h9 => by
        simp only [inB, Bool.and_eq_true, decide_eq_true_eq] at h9
        exact wr_of (by omega) (by omega)
      simp only [hj, Option.getD_some] at *
      first | (exfalso; omega) | (rw [hon, hv]; simp [*]; done) | (exfalso; simp at *; done) | trace_state
 · repeat' first | refine ST ?_ | refine ST2 ?_ | intro _ | apply And.intro
   all_goals first | (exfalso; omega) | (rw [hv, show k = l.length by omega]; done) | trace_state
instance iMovedFrom_c : HC 43 (∀ (W : World) (l : List Req) (rs : List (Int × List Int)) (v u : Value) (z : Int), Rs reqL W v l → Rs (replyL 3) W u rs → l.length ≤ 1048576 →Sp W [] 43 #[v, u, vi z] (RV (vi (accN l rs (fun j => j.from' == z) l.length)))) := by
 refine ⟨fun W l rs v u z hv hu hln => ?_⟩
 have hv1 := hv; have hu1 := hu
 obtain ⟨a, c, rfl, hc, hr⟩ := hv
 obtain ⟨a2, c2, rfl, hc2, hr2⟩ := hu
 refine gENT (vs := [_, _, _]) Tryz.func43 ?_
 repeat' first | refine ST ?_ | refine ST2 ?_ | intro _ | apply And.intro
 refine tOP fun bs hbs => ?_
 obtain ⟨b6, rfl⟩ := len1 hbs
 simp only [expT, expS, expC, List.getElem?_cons_zero, List.getElem?_cons_succ, List.cons_append, List.nil_append]
 repeat' first | (refine idAT ?_; refine aCa ?_; refine aCV (f := 124) (inst := ⟨iAccMoved_t⟩) (hcon := by intro c w hw; exact c w l rs _ _ b6 z (hv1.fr hw.fr) (hu1.fr hw.fr) (ptC_elem (hw.own 0 rfl)) hln) (k := ?_)) | refine ST ?_ | refine ST2 ?_ | intro _ | apply And.intro
 all_goals first | rfl | trace_state
instance iOffersTo_c : HC 41 (∀ (W : World) (v : Value) (id : Int), v = .slice none 0 0 →Sp W [] 41 #[v, vi id] (RV (vi 0))) := by
 refine ⟨fun W v id hv => ?_⟩
 subst hv
 refine gENT (vs := [_, _]) Tryz.func41 ?_
 repeat' first | refine ST ?_ | refine ST2 ?_ | intro _ | apply And.intro
 refine gFOR 12 0 (fun _ => True) trivial fun k hk _ => ?_
 repeat' first | refine ST ?_ | refine ST2 ?_ | intro _ | apply And.intro
 all_goals first | (exfalso; omega) | rfl | trace_state
end SX
end Go.Proofs.YtejojcoaohlfbaaGreat
