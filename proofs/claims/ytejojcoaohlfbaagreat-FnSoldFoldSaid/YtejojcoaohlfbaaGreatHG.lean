/- What a history of requests and replies says: the program's sums. -/
import Derived.Test.YtejojcoaohlfbaaGreatJB1
import Derived.Test.YtejojcoaohlfbaaGreatA9
import Derived.Test.YtejojcoaohlfbaaGreatSx9
import Derived.Test.YtejojcoaohlfbaaGreatMdb5
namespace Go.Proofs.YtejojcoaohlfbaaGreat
namespace SX
open Go Go.RowKit
set_option linter.unusedVariables false
set_option linter.unusedSimpArgs false
set_option maxRecDepth 10000
set_option maxHeartbeats 1000000
attribute [local irreducible] CD DN OPL AT QL QT CND RETG BKP HL HT HO slA slHo slP ptC pull pulls
instance iSuccessful_c : HC 122 (∀ (W : World) (l : List Req) (rs : List (Int × List Int)) (v u : Value) (i kind : Int), Rs reqL W v l → Rs (replyL 3) W u rs → 0 ≤ i → i < (l.length : Int) →Sp W [] 122 #[v, u, vi i, vi kind] (RV (.bool (doneAt l rs i.toNat kind)))) := by
 refine ⟨fun W l rs v u i kind ⟨a, c, e, hc, hr⟩ ⟨a2, c2, e2, hc2, hr2⟩ h0 h1 => ?_⟩
 subst e e2
 have hl := hr.len; have hl2 := hr2.len
 have hq := List.getElem?_eq_getElem (l := l) (i := i.toNat) (by omega)
 refine gENT (vs := [_, _, _, _]) Tryz.func122 ?_
 repeat' first | refine ST ?_ | refine ST2 ?_ | intro _ | apply And.intro
 all_goals first | (unfold doneAt; grind) | trace_state
instance iSold1_c : HC 126 (∀ (W : World) (b : Nat) (z : Int) (j : Req), ElemAt W (some ⟨b, 0, none⟩) 0 [vi z] →Sp W [] 126 #[.agg (reqE j).toArray, .pointer (some ⟨b, 0, none⟩)] (RV (.bool (j.cabin == z)))) := by
 refine ⟨fun W b z j hb => ?_⟩
 refine gENT (vs := [_, _]) Tryz.func126 (cVP (d := 1) rfl ?_)
 repeat' first | refine ST ?_ | refine ST2 ?_ | intro _ | apply And.intro
 all_goals first | rfl | trace_state
instance iMoved1_c : HC 125 (∀ (W : World) (b : Nat) (z : Int) (j : Req), ElemAt W (some ⟨b, 0, none⟩) 0 [vi z] →Sp W [] 125 #[.agg (reqE j).toArray, .pointer (some ⟨b, 0, none⟩)] (RV (.bool (j.from' == z)))) := by
 refine ⟨fun W b z j hb => ?_⟩
 refine gENT (vs := [_, _]) Tryz.func125 (cVP (d := 1) rfl ?_)
 repeat' first | refine ST ?_ | refine ST2 ?_ | intro _ | apply And.intro
 all_goals first | rfl | trace_state
instance iJoinOf_c : HC 230 (∀ (W : World) (l : List Req) (rs : List (Int × List Int)) (v u : Value) (id : Int) (i : Int), Rs reqL W v l → Rs (replyL 3) W u rs → 0 ≤ i → i < (l.length : Int) → l.length ≤ 1048576 →Sp W [] 230 #[v, u, vi id, vi i] (RV (.tuple #[.agg (reqE ((joinOf l rs id i.toNat).getD ⟨0, 0, 0, 0, 0, 0⟩)).toArray, .bool (joinOf l rs id i.toNat).isSome]))) := by
 refine ⟨fun W l rs v u id i hv hu h0 h1 hln => ?_⟩
 have hv1 := hv; have hu1 := hu
 obtain ⟨a, c, rfl, hc, hr⟩ := hv
 obtain ⟨a2, c2, rfl, hc2, hr2⟩ := hu
 have hl := hr.len; have hl2 := hr2.len
 refine gENT (vs := [_, _, _, _]) Tryz.func230 ?_
 repeat' first | refine ST ?_ | refine ST2 ?_ | intro _ | apply And.intro
 all_goals refine gLPG (fun q : Int => [(10, .v (vi q))]) [] (fun _ => []) (fun q => -1 ≤ q ∧ q < (l.length : Int) ∧ joinOf l rs id i.toNat = joinOf l rs id (q + 1).toNat) (fun q => (q + 1).toNat) (wr ((if (l.length : Int) < (if 0 > i then 0 else i) then (l.length : Int) else if 0 > i then 0 else i) - 1)) (h0 := ?_) (body := fun q hi => ?_)
 all_goals first | (have e9 : wr ((if (l.length : Int) < (if 0 > i then 0 else i) then (l.length : Int) else if 0 > i then 0 else i) - 1) = i - 1 := by (rw [if_neg (by split <;> omega), if_neg (by omega), wr_of (by omega) (by omega)])
                    rw [e9]; exact ⟨by omega, by omega, by rw [show i - 1 + 1 = i by omega]⟩) | skip
 all_goals obtain ⟨i1, i2, i3⟩ := hi
 all_goals by_cases hq0 : 0 ≤ q
 all_goals first
  | (have hqn : q.toNat < l.length := by omega
     have hon := join_on (rs := rs) (id := id) hqn
     rw [show (q + 1).toNat = q.toNat + 1 by omega, hon] at i3
     repeat' first | exact absurd hq0 ‹¬ _› | refine ST ?_ | refine ST2 ?_ | intro _ | apply And.intro
     all_goals first
      | (have ha : l[q.toNat].id = id := ‹_›
         have hb : doneAt l rs q.toNat 1 = true := ‹_›
         rw [i3, if_pos (by rw [ha, hb]; simp)]; rfl)
      | (have e8 : wr (q - 1) = q - 1 := wr_of (by omega) (by omega)
         refine gLBK (wr (q - 1)) (by rw [e8]; omega) (h := ?_)
         rw [e8]
         refine ⟨by omega, by omega, ?_⟩
         rw [i3, show q - 1 + 1 = q by omega, if_neg]
         simp only [Bool.and_eq_true, beq_iff_eq]
         first
          | (rintro ⟨w1, w2⟩; exact absurd w1 ‹l[q.toNat].id ≠ id›)
          | (rintro ⟨w1, w2⟩; rw [‹doneAt l rs q.toNat 1 = false›] at w2; cases w2))
      | (exfalso; omega)
      | trace_state)
  | (rw [show (q + 1).toNat = 0 by omega] at i3
     repeat' first | exact absurd ‹0 ≤ q› hq0 | refine ST ?_ | refine ST2 ?_ | intro _ | apply And.intro
     all_goals first | (exfalso; omega) | (rw [i3]; rfl) | trace_state)
instance iFreedBy_c : HC 40 (∀ (W : World) (l : List Req) (rs : List (Int × List Int)) (v u : Value) (z : Int), Rs reqL W v l → Rs (replyL 3) W u rs → l.length ≤ 1048576 →Sp W [] 40 #[v, u, vi z] (RV (vi (freedN l rs z l.length)))) := by
 refine ⟨fun W l rs v u z hv hu hln => ?_⟩
 have hv1 := hv; have hu1 := hu
 obtain ⟨a, c, rfl, hc, hr⟩ := hv
 obtain ⟨a2, c2, rfl, hc2, hr2⟩ := hu
 refine gENT (vs := [_, _, _]) Tryz.func40 ?_
 repeat' first | refine ST ?_ | refine ST2 ?_ | intro _ | apply And.intro
 refine gFORA 12 l.length (fun n => [(7, I n)]) (fun i n => n = freedN l rs z i) 0 rfl fun k n hk hv => ?_
 have hrg := freed_rng l rs z k
 by_cases hkl : k < l.length
 · have hon := freed_on (rs := rs) (cab := z) hkl
   repeat' first | refine ST ?_ | refine ST2 ?_ | intro _ | apply And.intro
   all_goals try simp only [Int.toNat_natCast] at *
   all_goals first
    | (exfalso; omega)
    | (rw [hon, if_pos (by simp [*]), hv]; have h9 : inB l[k].size 1 60 = true := ‹_›; simp only [inB, Bool.and_eq_true, decide_eq_true_eq] at h9; exact wr_of (by omega) (by omega))
    | (rw [hon, if_neg (by simp [*]), hv])
    | trace_state
 · repeat' first | refine ST ?_ | refine ST2 ?_ | intro _ | apply And.intro
   all_goals first | (exfalso; omega) | (rw [hv, show k = l.length by omega]; done) | trace_state
theorem iAccSold_t : ∀ (W : World) (l : List Req) (rs : List (Int × List Int)) (v u : Value) (b : Nat) (z : Int), Rs reqL W v l → Rs (replyL 3) W u rs → ElemAt W (some ⟨b, 0, none⟩) 0 [vi z] → l.length ≤ 1048576 → Sp W [] 124 #[v, u, .func (.func 126) #[] #[.pointer (some ⟨b, 0, none⟩)]] (RV (vi (accN l rs (fun j => j.cabin == z) l.length))) := by
 intro W l rs v u b z hv0 hu0 hb hln
 have hv1 := hv0; have hu1 := hu0
 obtain ⟨a, c, rfl, hc, hr⟩ := hv0
 obtain ⟨a2, c2, rfl, hc2, hr2⟩ := hu0
 refine gENT (vs := [_, _, _]) Tryz.func124 ?_
 repeat' first | refine ST ?_ | refine ST2 ?_ | intro _ | apply And.intro
 refine gFORA 14 l.length (fun n => [(7, I n)]) (fun i n => n = accN l rs (fun j => j.cabin == z) i) 0 rfl fun k n hk hv => ?_
 have hrg := acc_rng l rs (fun j => j.cabin == z) k
 by_cases hkl : k < l.length
 · have hon := acc_on (rs := rs) (t := fun j => j.cabin == z) hkl
   repeat' first | exact absurd hkl ‹¬ k < l.length› | (refine idAT ?_; refine aCa ?_; refine aCV (f := 126) (hcon := by intro c w hw; exact c w b z _ (ElemAt.fr hb hw.fr)) (k := ?_)) | refine ST ?_ | refine ST2 ?_ | intro _ | apply And.intro
   all_goals try simp only [Int.toNat_natCast] at *
   all_goals cases hj : joinOf l rs l[k].id k with
    | none => first | (exfalso; omega) | (simp only [hj] at *; rw [hon, hv]; simp [*]; done) | (exfalso; simp [hj] at *; done) | trace_state
    | some j =>
      have e9 : inB j.size 1 6 = true → wr (accN l rs (fun j => j.cabin == z) k + j.size) = accN l rs (fun j => j.cabin == z) k + j.size := fun h9 => by
        simp only [inB, Bool.and_eq_true, decide_eq_true_eq] at h9
        exact wr_of (by omega) (by omega)
      simp only [hj, Option.getD_some] at *
      first | (exfalso; omega) | (rw [hon, hv]; simp [*]; done) | (exfalso; simp at *; done) | trace_state
 · repeat' first | refine ST ?_ | refine ST2 ?_ | intro _ | apply And.intro
   all_goals first | (exfalso; omega) | (rw [hv, show k = l.length by omega]; done) | trace_state
instance iSoldBy_c : HC 44 (∀ (W : World) (l : List Req) (rs : List (Int × List Int)) (v u : Value) (z : Int), Rs reqL W v l → Rs (replyL 3) W u rs → l.length ≤ 1048576 →Sp W [] 44 #[v, u, vi z] (RV (vi (accN l rs (fun j => j.cabin == z) l.length)))) := by
 refine ⟨fun W l rs v u z hv hu hln => ?_⟩
 have hv1 := hv; have hu1 := hu
 obtain ⟨a, c, rfl, hc, hr⟩ := hv
 obtain ⟨a2, c2, rfl, hc2, hr2⟩ := hu
 refine gENT (vs := [_, _, _]) Tryz.func44 ?_
 repeat' first | refine ST ?_ | refine ST2 ?_ | intro _ | apply And.intro
 refine tOP fun bs hbs => ?_
 obtain ⟨b6, rfl⟩ := len1 hbs
 simp only [expT, expS, expC, List.getElem?_cons_zero, List.getElem?_cons_succ, List.cons_append, List.nil_append]
 repeat' first | (refine idAT ?_; refine aCa ?_; refine aCV (f := 124) (inst := ⟨iAccSold_t⟩) (hcon := by intro c w hw; exact c w l rs _ _ b6 z (hv1.fr hw.fr) (hu1.fr hw.fr) (ptC_elem (hw.own 0 rfl)) hln) (k := ?_)) | refine ST ?_ | refine ST2 ?_ | intro _ | apply And.intro
 all_goals first | rfl | trace_state
end SX
end Go.Proofs.YtejojcoaohlfbaaGreat
