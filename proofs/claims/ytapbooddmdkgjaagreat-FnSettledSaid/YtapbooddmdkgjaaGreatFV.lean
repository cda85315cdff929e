/- The law: a house that has settled is idle, and nobody in it could be seated. -/
import Derived.Test.YtapbooddmdkgjaaGreatFN
import Derived.Test.YtapbooddmdkgjaaGreatFU
import Derived.Test.YtapbooddmdkgjaaGreatCA
import Derived.Test.YtapbooddmdkgjaaGreatDE
import Derived.Test.YtapbooddmdkgjaaGreatDF
import Derived.Test.YtapbooddmdkgjaaGreatMdb2
namespace Go.Proofs.YtapbooddmdkgjaaGreat
namespace SX
open Go Go.RowKit
set_option linter.unusedVariables false
set_option linter.unusedSimpArgs false
set_option maxRecDepth 10000
set_option maxHeartbeats 1000000
attribute [local irreducible] CD DN OPL AT QL QT CND RETG BKP HL HT HO slA slHo slP ptC pull pulls
set_option maxHeartbeats 4000000
attribute [local irreducible] curO keepA RWk IsCur IsKd
theorem NTF {C : List Ass} {A : Ass} {j : Nat} (h : C[j]? = some A := by (repeat (first | exact nt0 | apply ntS)); done) : C[j]? = some A := h
theorem settle_szV {h : House} (most : Int) (hs : HouseSz h) : HouseSz (settleM h most).1 := by
  by_cases hok : houseOk h = true
  · have hst : settleM h most = settleGo (settleN most) h [] := if_pos hok
    rw [hst]; exact (settleGo_hp (hp_of hok)).sz
  · have hst : settleM h most = (h, []) := if_neg hok
    rw [hst]; exact hs
theorem settle_fin {h : House} (hok : houseOk h = true) (hl : ¬ ((settleM h 20).2.length : Int) ≥ 20) : houseOk (settleM h 20).1 = true ∧ idleB (settleM h 20).1 = true ∧ settleM (settleM h 20).1 1 = ((settleM h 20).1, []) := by
  have hst : settleM h 20 = settleGo 20 h [] := if_pos hok
  have h1 := settle_out 20 h [] (hp_of hok) (by rw [← hst]; simp; omega)
  rw [← hst] at h1
  obtain ⟨a1, a2, a3⟩ := h1
  refine ⟨a1.eq, a2, ?_⟩
  have e : settleM (settleM h 20).1 1 = settleGo 1 (settleM h 20).1 [] := if_pos a1.eq
  rw [e, settle_again a2 a3]
attribute [local irreducible] settleM
instance fnSettled_c : HC 8 (∀ (W : World) (d : Kd) (v : Value), IsKd v d →Sp W [keepA d] 8 #[v] (RKt d)) := by
 refine ⟨fun W d v hv => ?_⟩
 refine gENTO (vs := [_]) Tryz.func8 (fun S0 => cKV (d := d) (k := fun hok => ?_))
 obtain ⟨a, c, xs, e, hc, hs⟩ := hok
 have e2 : v = .slice a xs.length c := (show d.v = v from by unfold IsKd at hv; exact hv).symm.trans e
 subst e2
 clear hs e
 have hw9 : ∀ (y : House), HouseSz y → ∀ c ∈ y.cabins, c.wheel.spoke.flatten.length ≤ 1048576 := fun y hy c hc => (hy.2.2.2.2.2 c hc).2.2
 have hz9 : ∀ (y : House) (m : Int), HouseSz y → HouseSz (settleM y m).1 := fun y m hy => settle_szV m hy
 have hr9 : ∀ (l : List Int), eqInts l l = true := eqInts_refl
 repeat' first | exact rKT rfl | exact absurd ((hr9 _).symm.trans ‹eqInts _ _ = false›) (by decide) | (refine idAT ?_; refine aCa ?_; refine aCV (f := 45) (hcon := by intro c w hw; exact c w _ _ _ _ (HouseR.ownE hw NTF NTF NTF NTF NTF) (HouseR.ownE hw NTF NTF NTF NTF NTF) (by rw [(settle_fin ‹houseOk _ = true› ‹¬ ((settleM _ 20).2.length : Int) ≥ 20›).2.2]) (by rw [(settle_fin ‹houseOk _ = true› ‹¬ ((settleM _ 20).2.length : Int) ≥ 20›).2.2]; exact (settle_fin ‹houseOk _ = true› ‹¬ ((settleM _ 20).2.length : Int) ≥ 20›).1)) (k := ?_)) | (refine idRET ?_; refine rKT ?_) | refine STD ?_ | refine ST ?_ | refine ST2 ?_ | intro _ | apply And.intro
 all_goals
  exfalso
  generalize hx9 : (‹House × Int› : House × Int) = x9 at *
  have hp : houseOk x9.1 = true := by assumption
  have hq : ¬ ((settleM x9.1 20).2.length : Int) ≥ 20 := by assumption
  obtain ⟨s1, s2, s3⟩ := settle_fin hp hq
  first
  | exact absurd (s1.symm.trans (by assumption : houseOk (settleM x9.1 20).1 = false)) (by decide)
  | exact absurd ((show (houseOk (settleM x9.1 20).1 && idleB (settleM x9.1 20).1) = true by rw [s1, s2]; rfl).symm.trans (by assumption)) (by decide)
  | exact absurd (by rw [s3]; rfl) (by assumption : ((settleM (settleM x9.1 20).1 1).2.length : Int) ≠ 0)
  | trace_state
theorem fnSettled_k (W : World) (code : List UInt8) (a : Option Addr) (c : Nat) (h : Rd byteL W a code) (hc : code.length ≤ c) : Calls Tryz.prog 8 #[.slice a code.length c] W fun e w' => e = .returned (.bool true) ∧ Below W.heap.size W w' :=
  lawK (fun d v hv => fnSettled_c.pf W d v hv) h hc
end SX
end Go.Proofs.YtapbooddmdkgjaaGreat
