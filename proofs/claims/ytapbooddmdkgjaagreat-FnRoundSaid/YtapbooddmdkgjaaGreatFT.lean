/- Texts of this claim, put together by program. -/
import Derived.Test.YtapbooddmdkgjaaGreatFN
import Derived.Test.YtapbooddmdkgjaaGreatFU
import Derived.Test.YtapbooddmdkgjaaGreatCE
import Derived.Test.YtapbooddmdkgjaaGreatCA
import Derived.Test.YtapbooddmdkgjaaGreatMdb2
import Derived.Test.YtapbooddmdkgjaaGreatAQ
/- The law: a round. -/
namespace Go.Proofs.YtapbooddmdkgjaaGreat
namespace SX
open Go Go.RowKit
set_option linter.unusedVariables false
set_option linter.unusedSimpArgs false
set_option maxRecDepth 10000
set_option maxHeartbeats 1000000
attribute [local irreducible] CD DN OPL AT QL QT CND RETG BKP HL HT HO slA slHo slP ptC pull pulls
attribute [local irreducible] curO keepA RWk IsCur IsKd
def lateGo (now : Int) : List Party → List Int
  | [] => []
  | p :: ps => if dueB p now then p.id :: lateGo now ps else lateGo now ps
theorem lateGo_nil {now : Int} : ∀ {l : List Party}, (∀ p ∈ l, dueB p now = false) → lateGo now l = []
  | [], _ => rfl
  | p :: ps, h => by
    rw [lateGo, if_neg (by rw [h p (by simp)]; decide)]
    exact lateGo_nil fun q hq => h q (by simp [hq])
noncomputable def late (h : House) : List Int := if houseOk h then lateGo h.now h.parties else []
instance iLate_c : HC 41 (∀ (W : World) (cs : List Value) (h : House), HsR W cs h → HouseSz h →Sp W [] 41 #[.agg cs.toArray] (RO 3 intL (late h))) := by
 refine ⟨fun W cs h hh hsz => ?_⟩
 have hh1 := hh; obtain ⟨a1, c1, a2, c2, a3, c3, a4, c4, a5, c5, rfl, h1, h2, h3, h4, h5, h6, h7, h8, h9, h10⟩ := hh
 have hp9 := hsz.2.1
 refine gENT (vs := [_]) Tryz.func41 (gNILN 3 intL ?_)
 by_cases hok : houseOk h = true
 · have hl : late h = lateGo h.now h.parties := if_pos hok
   repeat' first | refine ST ?_ | intro _ | apply And.intro
   all_goals try (exact absurd (‹houseOk h = false›.symm.trans hok) (by decide))
   refine gFORO 12 h.parties.length 3 (fun _ : Unit => []) (fun k _ xs => xs.length ≤ k ∧ lateGo h.now h.parties = xs ++ lateGo h.now (h.parties.drop k)) () (h0 := ⟨by simp, rfl⟩) (body := fun k _ a c9 xs hk ⟨hl9, hv⟩ => ?_)
   repeat' first | refine ST ?_ | intro _ | apply And.intro
   all_goals first
    | exact LEN
    | (rw [hv, List.drop_eq_getElem_cons (by omega), lateGo, if_pos ‹_›]; simp; done)
    | (rw [hv, List.drop_eq_getElem_cons (by omega), lateGo, if_neg (by rw [show dueB h.parties[k] h.now = false by assumption]; decide)]; done)
    | (have hE : lateGo h.now h.parties = xs := by rw [hv, List.drop_eq_nil_of_le (by omega)]; simp [lateGo]
       rw [hl, hE]; done)
    | trace_state
 · have hl : late h = [] := if_neg hok
   repeat' first | refine ST ?_ | intro _ | apply And.intro
   all_goals first | exact absurd ‹houseOk h = true› hok | (rw [hl]; done) | trace_state
theorem round_sz {h : House} (hs : HouseSz h) : HouseSz (roundM h) := by
  by_cases hv : verdict h ⟨6, 0, 0, 0, 0, 0⟩ = 0
  · exact (round_out hv).1.sz
  · have hr : roundM h = h := by rw [roundM, if_neg hv]
    rw [hr]; exact hs
theorem late_nil {h : House} (hl : ∀ p ∈ h.parties, dueB p h.now = false) : late h = [] := by
  unfold late
  split
  · exact lateGo_nil hl
  · rfl
instance sIdle_c : HC 40 (∀ (W : World) (cs : List Value) (h : House), HsR W cs h → HouseSz h →Sp W [] 40 #[.agg cs.toArray] (RV (.bool (houseOk h && idleB h)))) := by
 refine ⟨fun W cs h hh hsz => ?_⟩
 have hh1 := hh; obtain ⟨a1, c1, a2, c2, a3, c3, a4, c4, a5, c5, rfl, h1, h2, h3, h4, h5, h6, h7, h8, h9, h10⟩ := hh
 have hw9 : ∀ c ∈ h.cabins, c.wheel.spoke.flatten.length ≤ 1048576 := fun c hc => (hsz.2.2.2.2.2 c hc).2.2
 refine gENT (vs := [_]) Tryz.func40 ?_
 repeat' first | refine ST ?_ | intro _ | apply And.intro
 all_goals first | (simp [*]; done) | trace_state
end SX
end Go.Proofs.YtapbooddmdkgjaaGreat
/- The law: behind a round all is idle, and nobody is late. -/
namespace Go.Proofs.YtapbooddmdkgjaaGreat
namespace SX
open Go Go.RowKit
set_option linter.unusedVariables false
set_option linter.unusedSimpArgs false
set_option maxRecDepth 10000
set_option maxHeartbeats 1000000
attribute [local irreducible] CD DN OPL AT QL QT CND RETG BKP HL HT HO slA slHo slP ptC pull pulls
attribute [local irreducible] curO keepA RWk IsCur IsKd
instance fnRound_c : HC 7 (∀ (W : World) (d : Kd) (v : Value), IsKd v d →Sp W [keepA d] 7 #[v] (RKt d)) := by
 refine ⟨fun W d v hv => ?_⟩
 refine gENTO (vs := [_]) Tryz.func7 (fun S0 => cKV (d := d) (k := fun hok => ?_))
 obtain ⟨a, c, xs, e, hc, hs⟩ := hok
 have e2 : v = .slice a xs.length c := (show d.v = v from by unfold IsKd at hv; exact hv).symm.trans e
 subst e2
 clear hs e
 have hz9 : ∀ (y : House), HouseSz y → HouseSz (roundM y) := fun y hy => round_sz hy
 repeat' first | exact rKT rfl | (refine idRET ?_; refine rKT ?_) | refine STD ?_ | refine ST ?_ | refine ST2 ?_ | intro _ | apply And.intro
 all_goals first
  | exact absurd rfl ‹verdict _ _ ≠ _›
  | (obtain ⟨r1, r2, r3, r4⟩ := round_out ‹verdict _ _ = 0›
     have r5 := r1.now
     first
     | (rw [wr_of (by omega) (by omega)]; simp; omega)
     | exact absurd (by rw [late_nil r3]; rfl) ‹((late _).length : Int) ≠ 0›
     | (exfalso; simp_all [r1.eq, r2]; done)
     | (have h9 := late_nil r3; exfalso; simp_all; done))
  | trace_state
theorem fnRound_k (W : World) (code : List UInt8) (a : Option Addr) (c : Nat) (h : Rd byteL W a code) (hc : code.length ≤ c) : Calls Tryz.prog 7 #[.slice a code.length c] W fun e w' => e = .returned (.bool true) ∧ Below W.heap.size W w' :=
  lawK (fun d v hv => fnRound_c.pf W d v hv) h hc
end SX
end Go.Proofs.YtapbooddmdkgjaaGreat
