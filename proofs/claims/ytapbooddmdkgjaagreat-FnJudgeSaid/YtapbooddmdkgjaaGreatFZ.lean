/- Texts of this claim, put together by program. -/
import Derived.Test.YtapbooddmdkgjaaGreatJB1
import Derived.Test.YtapbooddmdkgjaaGreatFX
import Derived.Test.YtapbooddmdkgjaaGreatFU
import Derived.Test.YtapbooddmdkgjaaGreatBX
import Derived.Test.YtapbooddmdkgjaaGreatCA
import Derived.Test.YtapbooddmdkgjaaGreatMdb1
/- The law: the judge accepts exactly the results of a scan. -/
namespace Go.Proofs.YtapbooddmdkgjaaGreat
namespace SX
open Go Go.RowKit
set_option linter.unusedVariables false
set_option linter.unusedSimpArgs false
set_option maxRecDepth 10000
set_option maxHeartbeats 1000000
attribute [local irreducible] CD DN OPL AT QL QT CND RETG BKP HL HT HO slA slHo slP ptC pull pulls
attribute [local irreducible] curO keepA RWk IsCur IsKd
theorem iDueIn_no (W : World) (cs : List Value) (h : House) (cabin : Int) (hh : HsR W cs h) (hsz : HouseSz h) (hb : hasCab h cabin = false) : Sp W [] 192 #[.agg cs.toArray, vi cabin] (RO 3 intL []) := by
 have hh1 := hh; obtain ⟨a1, c1, a2, c2, a3, c3, a4, c4, a5, c5, rfl, h1, h2, h3, h4, h5, h6, h7, h8, h9, h10⟩ := hh
 refine gENT (vs := [_, _]) Tryz.func192 (gNILN 3 intL ?_)
 repeat' first | exact absurd (‹hasCab h cabin = true›.symm.trans hb) (by decide) | refine ST ?_ | refine ST2 ?_ | intro _ | apply And.intro
 all_goals first | rfl | trace_state
theorem iExpire_no (W : World) (cs : List Value) (h : House) (cabin : Int) (hh : HsR W cs h) (hsz : HouseSz h) (hb : hasCab h cabin = false) : Sp W [] 97 #[.agg cs.toArray, vi cabin] (RHs h) := by
 have hh1 := hh; obtain ⟨a1, c1, a2, c2, a3, c3, a4, c4, a5, c5, rfl, h1, h2, h3, h4, h5, h6, h7, h8, h9, h10⟩ := hh
 refine gENT (vs := [_, _]) Tryz.func97 ?_
 repeat' first | (refine idAT ?_; refine aCa ?_; refine aCX (f := 192) (hcon := by intro c w hw; exact iDueIn_no w _ h cabin (HouseR.fr hh1 hw.fr) hsz hb) (hp := pl0) (k := fun x9 => ?_)) | refine ST ?_ | refine ST2 ?_ | intro _ | apply And.intro
 refine gFOR 14 0 (fun _ => True) trivial fun k hk _ => ?_
 repeat' first | refine ST ?_ | refine ST2 ?_ | intro _ | apply And.intro
 all_goals first | rfl | (exfalso; simp_all; done) | trace_state
theorem iScan_no (W : World) (cs : List Value) (h : House) (cabin : Int) (hh : HsR W cs h) (hsz : HouseSz h) (hb : hasCab h cabin = false) : Sp W [] 34 #[.agg cs.toArray, vi cabin] (RT2 (RHs h) (RO 3 intL [])) := by
 have hh1 := hh; obtain ⟨a1, c1, a2, c2, a3, c3, a4, c4, a5, c5, rfl, h1, h2, h3, h4, h5, h6, h7, h8, h9, h10⟩ := hh
 have hno : nextOffer h cabin = 0 := nextOffer_no hb
 refine gENT (vs := [_, _]) Tryz.func34 (gNILN 3 intL ?_)
 repeat' first | (refine idAT ?_; refine aCa ?_; refine aCX (f := 97) (hcon := by intro c w hw; exact iExpire_no w _ h cabin (HouseR.fr hh1 hw.fr) hsz hb) (hp := pl0) (k := fun x9 => ?_)) | refine ST ?_ | refine ST2 ?_ | intro _ | apply And.intro
 refine gLPG (fun _ : Unit => []) [] (fun _ => []) (fun _ => True) (fun _ => 0) () (hp := pl0) (h0 := trivial) (body := fun q _ => ?_)
 repeat' first | exact absurd hno ‹nextOffer h cabin ≠ 0› | refine ST ?_ | refine ST2 ?_ | intro _ | apply And.intro
 all_goals first | rfl | trace_state
theorem iScan_all (W : World) (cs : List Value) (h : House) (cabin : Int) (hh : HsR W cs h) (hsz : HouseSz h) : Sp W [] 34 #[.agg cs.toArray, vi cabin] (RT2 (RHs (scan h cabin).1) (RO 3 intL (scan h cabin).2)) := by
 cases hb : hasCab h cabin with
 | true => exact iScan_c.pf W cs h cabin hh hb
 | false =>
  have e : scan h cabin = (h, []) := by unfold scan; rw [hb]; rfl
  rw [e]
  exact iScan_no W cs h cabin hh hsz hb
instance iScanA_c : HC 34 (∀ (W : World) (cs : List Value) (h : House) (cabin : Int), HsR W cs h → HouseSz h →Sp W [] 34 #[.agg cs.toArray, vi cabin] (RT2 (RHs (scan h cabin).1) (RO 3 intL (scan h cabin).2))) := by
 exact ⟨fun W cs h cabin hh hsz => iScan_all W cs h cabin hh hsz⟩
theorem has_iff {h : House} {k : Int} : hasCab h k = true ↔ houseOk h = true ∧ 0 ≤ k ∧ k < (h.cabins.length : Int) := by
  constructor
  · intro hb
    obtain ⟨h1, h2, h3⟩ := hasCab_rep hb
    exact ⟨h1.eq, h2, h3⟩
  · rintro ⟨h1, h2, h3⟩
    exact hasCab_mk (hp_of h1) h2 h3
theorem has_not {h : House} {k : Int} (hn : houseOk h = false ∨ k < 0 ∨ ¬ k < (h.cabins.length : Int)) : hasCab h k = false := by
  cases hb : hasCab h k with
  | false => rfl
  | true =>
    obtain ⟨h1, h2, h3⟩ := has_iff.1 hb
    rcases hn with hn | hn | hn
    · rw [h1] at hn; cases hn
    · omega
    · exact absurd h3 hn
theorem judge_no {h : House} {k : Int} {made : List Int} (hn : houseOk h = false ∨ k < 0 ∨ ¬ k < (h.cabins.length : Int)) : judgeScan h k made = false ∧ (scan h k).2 = [] := by
  have hb := has_not hn
  refine ⟨judgeScan_no (.inl hb), ?_⟩
  unfold scan; rw [hb]; rfl
theorem judge_is {h : House} {k : Int} (h1 : houseOk h = true) (h2 : ¬ k < 0) (h3 : k < (h.cabins.length : Int)) (made : List Int) : judgeScan h k made = eqInts made (scan h k).2 := by
  rw [judge_scan (has_iff.2 ⟨h1, by omega, h3⟩), eqInts_eq]
end SX
end Go.Proofs.YtapbooddmdkgjaaGreat
/- The law: the judge accepts exactly the results of a scan. -/
namespace Go.Proofs.YtapbooddmdkgjaaGreat
namespace SX
open Go Go.RowKit
set_option linter.unusedVariables false
set_option linter.unusedSimpArgs false
set_option maxRecDepth 10000
set_option maxHeartbeats 1000000
attribute [local irreducible] CD DN OPL AT QL QT CND RETG BKP HL HT HO slA slHo slP ptC pull pulls
set_option maxHeartbeats 400000
attribute [local irreducible] curO keepA RWk IsCur IsKd
instance fnJudge_c : HC 6 (∀ (W : World) (d : Kd) (v : Value), IsKd v d →Sp W [keepA d] 6 #[v] (RKt d)) := by
 refine ⟨fun W d v hv => ?_⟩
 refine gENTO (vs := [_]) Tryz.func6 (fun S0 => cKV (d := d) (k := fun hok => ?_))
 obtain ⟨a, c, xs, e, hc, hs⟩ := hok
 have e2 : v = .slice a xs.length c := (show d.v = v from by unfold IsKd at hv; exact hv).symm.trans e
 subst e2
 clear hs e
 have hw9 : ∀ (y : House), HouseSz y → ∀ c ∈ y.cabins, c.wheel.spoke.flatten.length ≤ 1048576 := fun y hy c hc => (hy.2.2.2.2.2 c hc).2.2
 repeat' first | exact rKT rfl | (refine idRET ?_; refine rKT ?_) | refine STD ?_ | refine ST ?_ | refine ST2 ?_ | intro _ | apply And.intro
 all_goals generalize hx9 : (‹House × Int × List Int› : House × Int × List Int) = x9 at *
 all_goals first
  | (have h9 := judge_no (h := x9.1) (k := x9.2.1) (made := x9.2.2) (by first | exact .inl (by assumption) | exact .inr (.inl (by assumption)) | exact .inr (.inr (by omega)))
     first
     | (rw [h9.2]; rfl)
     | exact absurd (h9.1.symm.trans (by assumption)) (by decide))
  | (have h8 := judge_is (h := x9.1) (k := x9.2.1) (by assumption) (by assumption) (by omega)
     first
     | (rw [h8 x9.2.2]; simp; done)
     | exact absurd (((h8 (scan x9.1 x9.2.1).2).trans (eqInts_refl _)).symm.trans (by assumption)) (by decide))
  | trace_state
theorem fnJudge_k (W : World) (code : List UInt8) (a : Option Addr) (c : Nat) (h : Rd byteL W a code) (hc : code.length ≤ c) : Calls Tryz.prog 6 #[.slice a code.length c] W fun e w' => e = .returned (.bool true) ∧ Below W.heap.size W w' :=
  lawK (fun d v hv => fnJudge_c.pf W d v hv) h hc
end SX
end Go.Proofs.YtapbooddmdkgjaaGreat
