/- The law: after all offers are accepted. -/
import Derived.Test.YtapbooddmdkgjaaGreatFN
import Derived.Test.YtapbooddmdkgjaaGreatFU
import Derived.Test.YtapbooddmdkgjaaGreatCF
import Derived.Test.YtapbooddmdkgjaaGreatMdb1
namespace Go.Proofs.YtapbooddmdkgjaaGreat
namespace SX
open Go Go.RowKit
set_option linter.unusedVariables false
set_option linter.unusedSimpArgs false
set_option maxRecDepth 10000
set_option maxHeartbeats 1000000
attribute [local irreducible] CD DN OPL AT QL QT CND RETG BKP HL HT HO slA slHo slP ptC pull pulls
attribute [local irreducible] curO keepA RWk IsCur IsKd
theorem accAll_sz {h : House} (hs : HouseSz h) : HouseSz (accAll h).1 := by
  by_cases hok : houseOk h = true
  · exact (accAll_hp (hp_of hok)).sz
  · have hac : accAll h = (h, []) := if_neg hok
    rw [hac]; exact hs
theorem accAll_bad {h : House} (hb : houseOk h = false) : (accAll h).2 = [] := by
  have hac : accAll h = (h, []) := if_neg (by rw [hb]; decide)
  rw [hac]
instance fnAcceptAll_c : HC 5 (∀ (W : World) (d : Kd) (v : Value), IsKd v d →Sp W [keepA d] 5 #[v] (RKt d)) := by
 refine ⟨fun W d v hv => ?_⟩
 refine gENTO (vs := [_]) Tryz.func5 (fun S0 => cKV (d := d) (k := fun hok => ?_))
 obtain ⟨a, c, xs, e, hc, hs⟩ := hok
 have e2 : v = .slice a xs.length c := (show d.v = v from by unfold IsKd at hv; exact hv).symm.trans e
 subst e2
 clear hs e
 have hw9 : ∀ (y : House), HouseSz y → ∀ c ∈ y.cabins, c.wheel.spoke.flatten.length ≤ 1048576 := fun y hy c hc => (hy.2.2.2.2.2 c hc).2.2
 have hz9 : ∀ (y : House), HouseSz y → HouseSz (accAll y).1 := fun y hy => accAll_sz hy
 have hr9 : ∀ (l : List Int), eqInts l l = true := eqInts_refl
 have hl9 : ∀ (y : House), HouseSz y → (accAll y).1.parties.length ≤ 1048576 := fun y hy => (accAll_sz hy).2.1
 repeat' first | exact rKT rfl | exact absurd ((hr9 _).symm.trans ‹eqInts _ _ = false›) (by decide) | (refine idRET ?_; refine rKT ?_) | refine STD ?_ | refine ST ?_ | refine ST2 ?_ | intro _ | apply And.intro
 · rw [accAll_bad ‹houseOk _ = false›]; rfl
 rename_i x hx q u1 u2 _ hok
 obtain ⟨g1, g2, g3⟩ := accAll_out (hp_of hok)
 have g4 := g1.len; have g5 := (hp_of hok).len
 refine gISS (La := partyL) (a := u1.1.2.1.1) (xs := (accAll x).1.parties) (k := fun his => ?_)
 refine gFOR 8 (accAll x).1.parties.length (fun _ => True) trivial fun k hk _ => ?_
 repeat' first | exact rKT rfl | (refine idRET ?_; refine rKT ?_) | refine STD ?_ | refine ST ?_ | refine ST2 ?_ | intro _ | apply And.intro
 all_goals first
  | exact g1.eq
  | exact absurd (‹houseOk _ = false›.symm.trans g1.eq) (by decide)
  | trivial
  | (have h9 : ∀ p ∈ (accAll x).1.parties, ¬ (p.state = 2 ∧ dueB p (accAll x).1.now = false) := fun p hp hh => by have h8 := g2 p hp hh.1; rw [hh.2] at h8; cases h8
     exfalso; exact h9 _ (List.getElem_mem (show k < (accAll x).1.parties.length by assumption)) ⟨by assumption, by assumption⟩)
  | (rw [wr_of (by omega) (by omega)]; simp; omega)
  | trace_state
theorem fnAcceptAll_k (W : World) (code : List UInt8) (a : Option Addr) (c : Nat) (h : Rd byteL W a code) (hc : code.length ≤ c) : Calls Tryz.prog 5 #[.slice a code.length c] W fun e w' => e = .returned (.bool true) ∧ Below W.heap.size W w' :=
  lawK (fun d v hv => fnAcceptAll_c.pf W d v hv) h hc
end SX
end Go.Proofs.YtapbooddmdkgjaaGreat
