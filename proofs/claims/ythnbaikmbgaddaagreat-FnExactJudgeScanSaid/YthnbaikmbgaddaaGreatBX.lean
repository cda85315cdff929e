/- Texts of this claim, put together by program. -/
import Derived.Test.YthnbaikmbgaddaaGreatBT
import Derived.Test.YthnbaikmbgaddaaGreatMdlo
import Derived.Test.YthnbaikmbgaddaaGreatMdlj
import Derived.Test.YthnbaikmbgaddaaGreatBB
import Derived.Test.YthnbaikmbgaddaaGreatSuc
import Derived.Test.YthnbaikmbgaddaaGreatBW
/- Who goes ahead of whom; who fits; who was passed over: the program's side. -/
namespace Go.Proofs.YthnbaikmbgaddaaGreat
namespace SX
open Go Go.RowKit
set_option linter.unusedVariables false
set_option linter.unusedSimpArgs false
set_option maxRecDepth 10000
set_option maxHeartbeats 1000000
attribute [local irreducible] CD DN OPL AT QL QT CND RETG BKP HL HT HO slA slHo slP ptC pull pulls
instance iBefore_c : HC 214 (∀ (W : World) (cs : List Value) (r : Rules) (x y : Party) (now : Int), RulesR W cs r →Sp W [] 214 #[.agg cs.toArray, .agg (partyE x).toArray, .agg (partyE y).toArray, vi now] (RV (.bool (beforeB r x y now)))) := by
 refine ⟨fun W cs r x y now hr => gENT (vs := [_, _, _, _]) Tryz.func214 ?_⟩
 obtain ⟨a, c, rfl, hc, h⟩ := id hr
 repeat' first | refine ST ?_ | intro _ | apply And.intro
 all_goals first | (simp_all [beforeB]; done) | grind [beforeB] | trace_state
instance iEligible_c : HC 116 (∀ (W : World) (cs : List Value) (h : House) (p : Party) (cabin : Int), HsR W cs h → 0 ≤ cabin → cabin < (h.cabins.length : Int) →Sp W [] 116 #[.agg cs.toArray, .agg (partyE p).toArray, vi cabin] (RV (.bool (fitsB h cabin p)))) := by
 refine ⟨fun W cs h p cabin hh hc0 hc1 => ?_⟩
 have hh1 := hh; obtain ⟨a1, c1, a2, c2, a3, c3, a4, c4, a5, c5, rfl, h1, h2, h3, h4, h5, h6, h7, h8, h9, h10⟩ := hh
 have hk : cabin.toNat < h.cabins.length := by omega
 have hx := freeAt_of (List.getElem?_eq_getElem hk)
 refine gENT (vs := [_, _, _]) Tryz.func116 ?_
 repeat' first | refine ST ?_ | intro _ | apply And.intro
 all_goals first | (simp_all [fitsB]; done) | grind [fitsB] | trace_state
instance iPassed_c : HC 117 (∀ (W : World) (cs : List Value) (h : House) (cabin id : Int), HsR W cs h → HouseSz h →Sp W [] 117 #[.agg cs.toArray, vi cabin, vi id] (RO 3 intL (passed h cabin id))) := by
 refine ⟨fun W cs h cabin id hh hsz => ?_⟩
 have hh1 := hh; obtain ⟨a1, c1, a2, c2, a3, c3, a4, c4, a5, c5, rfl, h1, h2, h3, h4, h5, h6, h7, h8, h9, h10⟩ := hh
 have hp9 := hsz.2.1; have hal := atId_lt h.parties id
 refine gENT (vs := [_, _, _]) Tryz.func117 (gNILN 3 intL ?_)
 by_cases hb : hasCab h cabin = true
 · obtain ⟨hc0, hc1⟩ := hasCab_in hb
   by_cases hat : atId h.parties id < 0
   · repeat' first | refine ST ?_ | intro _ | apply And.intro
     all_goals first | exact absurd (‹hasCab h cabin = false›.symm.trans hb) (by decide) | (rw [passed_neg hat]; done) | (exfalso; omega) | trace_state
   · have hq := List.getElem?_eq_getElem (show (atId h.parties id).toNat < h.parties.length by omega)
     repeat' first | refine ST ?_ | intro _ | apply And.intro
     all_goals first | exact absurd (‹hasCab h cabin = false›.symm.trans hb) (by decide) | (exfalso; omega) | (rw [passed_ne hq ‹_›]; done) | skip
     refine gFORO 35 h.parties.length 8 (fun _ : Unit => []) (fun k _ xs => xs.length ≤ k ∧ passed h cabin id = xs ++ passGo h cabin (h.parties[(atId h.parties id).toNat]'(by omega)) (h.parties.drop k)) () (h0 := ⟨by simp, by rw [passed_of hb hat hq ‹_›]; rfl⟩) (body := fun k _ a c9 xs hk ⟨hl, hv⟩ => ?_)
     repeat' first | refine ST ?_ | intro _ | apply And.intro
     all_goals first
      | exact LEN
      | (exfalso; omega)
      | (rw [hv, List.drop_eq_getElem_cons (by omega), passGo, if_pos (by simp [*])]; simp; done)
      | (rw [hv, List.drop_eq_getElem_cons (by omega), passGo, if_neg (by simp [*])]; done)
      | (rw [hv, List.drop_eq_nil_of_le (by omega)]; simp [passGo]; done)
      | trace_state
 · repeat' first | refine ST ?_ | intro _ | apply And.intro
   all_goals first | exact absurd ‹hasCab h cabin = true› hb | (rw [passed_no (by simpa using hb)]; done) | trace_state
end SX
end Go.Proofs.YthnbaikmbgaddaaGreat
/- The reference's side: requests that are right. -/
namespace Go.Proofs.YthnbaikmbgaddaaGreat
namespace SX
open Go Go.RowKit
set_option linter.unusedVariables false
set_option linter.unusedSimpArgs false
set_option maxRecDepth 10000
set_option maxHeartbeats 1000000
attribute [local irreducible] CD DN OPL AT QL QT CND RETG BKP HL HT HO slA slHo slP ptC pull pulls
end SX
end Go.Proofs.YthnbaikmbgaddaaGreat
/- The reference's side: requests that free seats, that are answered, that leave. -/
namespace Go.Proofs.YthnbaikmbgaddaaGreat
namespace SX
open Go Go.RowKit
set_option linter.unusedVariables false
set_option linter.unusedSimpArgs false
set_option maxRecDepth 10000
set_option maxHeartbeats 1000000
attribute [local irreducible] CD DN OPL AT QL QT CND RETG BKP HL HT HO slA slHo slP ptC pull pulls
end SX
end Go.Proofs.YthnbaikmbgaddaaGreat
/- The reference's side: offers that are answered, parties that go, seats' ticks. -/
namespace Go.Proofs.YthnbaikmbgaddaaGreat
namespace SX
open Go Go.RowKit
set_option linter.unusedVariables false
set_option linter.unusedSimpArgs false
set_option maxRecDepth 10000
set_option maxHeartbeats 1000000
attribute [local irreducible] CD DN OPL AT QL QT CND RETG BKP HL HT HO slA slHo slP ptC pull pulls
end SX
end Go.Proofs.YthnbaikmbgaddaaGreat
/- Who goes ahead of whom; who fits; who was passed over: the reference's side. -/
namespace Go.Proofs.YthnbaikmbgaddaaGreat
namespace SX
open Go Go.RowKit
set_option linter.unusedVariables false
set_option linter.unusedSimpArgs false
set_option maxRecDepth 10000
set_option maxHeartbeats 1000000
attribute [local irreducible] CD DN OPL AT QL QT CND RETG BKP HL HT HO slA slHo slP ptC pull pulls
instance sBefore_c : HC 218 (∀ (W : World) (cs : List Value) (r : Rules) (x y : Party) (now : Int), RulesR W cs r →Sp W [] 218 #[.agg cs.toArray, .agg (partyE x).toArray, .agg (partyE y).toArray, vi now] (RV (.bool (beforeB r x y now)))) := by
 refine ⟨fun W cs r x y now hr => gENT (vs := [_, _, _, _]) Tryz.func218 ?_⟩
 obtain ⟨a, c, rfl, hc, h⟩ := id hr
 repeat' first | refine ST ?_ | intro _ | apply And.intro
 all_goals first | (simp_all [beforeB]; done) | grind [beforeB] | trace_state
instance s25Fits_c : HC 127 (∀ (W : World) (cs : List Value) (h : House) (cabin : Int) (p : Party), HsR W cs h → 0 ≤ cabin → cabin < (h.cabins.length : Int) →Sp W [] 127 #[.agg cs.toArray, vi cabin, .agg (partyE p).toArray] (RV (.bool (fitsB h cabin p)))) := by
 refine ⟨fun W cs h cabin p hh hc0 hc1 => ?_⟩
 have hh1 := hh; obtain ⟨a1, c1, a2, c2, a3, c3, a4, c4, a5, c5, rfl, h1, h2, h3, h4, h5, h6, h7, h8, h9, h10⟩ := hh
 have hk : cabin.toNat < h.cabins.length := by omega
 have hx := freeAt_of (List.getElem?_eq_getElem hk)
 refine gENT (vs := [_, _, _]) Tryz.func127 ?_
 repeat' first | refine ST ?_ | intro _ | apply And.intro
 all_goals first | (simp_all [fitsB]; done) | grind [fitsB] | trace_state
instance sPassed_c : HC 128 (∀ (W : World) (cs : List Value) (h : House) (cabin id : Int), HsR W cs h → HouseSz h →Sp W [] 128 #[.agg cs.toArray, vi cabin, vi id] (RO 3 intL (passed h cabin id))) := by
 refine ⟨fun W cs h cabin id hh hsz => ?_⟩
 have hh1 := hh; obtain ⟨a1, c1, a2, c2, a3, c3, a4, c4, a5, c5, rfl, h1, h2, h3, h4, h5, h6, h7, h8, h9, h10⟩ := hh
 have hp9 := hsz.2.1; have hal := atId_lt h.parties id
 refine gENT (vs := [_, _, _]) Tryz.func128 ?_
 by_cases hb : hasCab h cabin = true
 · obtain ⟨hc0, hc1⟩ := hasCab_in hb
   by_cases hat : atId h.parties id < 0
   · repeat' first | refine ST ?_ | intro _ | apply And.intro
     all_goals first | exact absurd (‹hasCab h cabin = false›.symm.trans hb) (by decide) | (rw [passed_neg hat]; done) | (exfalso; omega) | trace_state
   · have hq := List.getElem?_eq_getElem (show (atId h.parties id).toNat < h.parties.length by omega)
     repeat' first | refine ST ?_ | intro _ | apply And.intro
     all_goals first | exact absurd (‹hasCab h cabin = false›.symm.trans hb) (by decide) | (exfalso; omega) | (rw [passed_ne hq ‹_›]; done) | skip
     refine gFORO 9 h.parties.length 7 (fun _ : Unit => []) (fun k _ xs => xs.length ≤ k ∧ passed h cabin id = xs ++ passGo h cabin (h.parties[(atId h.parties id).toNat]'(by omega)) (h.parties.drop k)) () (h0 := ⟨by simp, by rw [passed_of hb hat hq ‹_›]; rfl⟩) (body := fun k _ a c9 xs hk ⟨hl, hv⟩ => ?_)
     repeat' first | refine ST ?_ | intro _ | apply And.intro
     all_goals first
      | exact LEN
      | (exfalso; omega)
      | (rw [hv, List.drop_eq_getElem_cons (by omega), passGo, if_pos (by simp [*])]; simp; done)
      | (rw [hv, List.drop_eq_getElem_cons (by omega), passGo, if_neg (by simp [*])]; done)
      | (rw [hv, List.drop_eq_nil_of_le (by omega)]; simp [passGo]; done)
      | trace_state
 · repeat' first | refine ST ?_ | intro _ | apply And.intro
   all_goals first | exact absurd ‹hasCab h cabin = true› hb | (rw [passed_no (by simpa using hb)]; done) | trace_state
end SX
end Go.Proofs.YthnbaikmbgaddaaGreat
/- The reference's side: a look. -/
namespace Go.Proofs.YthnbaikmbgaddaaGreat
namespace SX
open Go Go.RowKit
set_option linter.unusedVariables false
set_option linter.unusedSimpArgs false
set_option maxRecDepth 10000
set_option maxHeartbeats 1000000
attribute [local irreducible] CD DN OPL AT QL QT CND RETG BKP HL HT HO slA slHo slP ptC pull pulls
end SX
end Go.Proofs.YthnbaikmbgaddaaGreat
/- The reference's side: an offer that is made; a scan that is judged. -/
namespace Go.Proofs.YthnbaikmbgaddaaGreat
namespace SX
open Go Go.RowKit
set_option linter.unusedVariables false
set_option linter.unusedSimpArgs false
set_option maxRecDepth 10000
set_option maxHeartbeats 1000000
attribute [local irreducible] CD DN OPL AT QL QT CND RETG BKP HL HT HO slA slHo slP ptC pull pulls
theorem offer_ok {h : House} {cabin : Int} (hb : hasCab h cabin = true) : HRep (offer h cabin) ∧ hasCab (offer h cabin) cabin = true := by
  unfold offer
  by_cases hz : nextOffer h cabin = 0
  · rw [if_pos hz]; exact ⟨(hasCab_rep hb).1, hb⟩
  · rw [if_neg hz]; exact ⟨(offered_hp hz).1, (offered_hp hz).2⟩
instance sOffer_c : HC 129 (∀ (W : World) (cs : List Value) (h : House) (cabin : Int), HsR W cs h → HouseSz h →Sp W [] 129 #[.agg cs.toArray, vi cabin] (RT2 (RHs (offer h cabin)) (RV (vi (nextOffer h cabin))))) := by
 refine ⟨fun W cs h cabin hh hsz => ?_⟩
 have hh1 := hh; obtain ⟨a1, c1, a2, c2, a3, c3, a4, c4, a5, c5, rfl, h1, h2, h3, h4, h5, h6, h7, h8, h9, h10⟩ := hh
 refine gENT (vs := [_, _]) Tryz.func129 ?_
 by_cases hb : hasCab h cabin = true
 · obtain ⟨hR, hc0, hc1⟩ := hasCab_rep hb
   have hn := nextM_eq hb
   by_cases hz : nextM h cabin = 0
   · have hzb : decide (nextM h cabin = 0) = true := decide_eq_true hz
     have ho : offer h cabin = h := by unfold offer; rw [if_pos (by rw [hn]; exact hz)]
     repeat' first | refine ST ?_ | intro _ | apply And.intro
     all_goals first | exact absurd (‹hasCab h cabin = false›.symm.trans hb) (by decide) | (rw [ho]; done) | (rw [hn]; done) | (rw [ho]; rfl) | (rw [hn]; rfl) | trace_state
   · have hzb : decide (nextM h cabin = 0) = false := decide_eq_false hz
     have ho : offer h cabin = offeredM h cabin := by unfold offer; rw [if_neg (by rw [hn]; exact hz)]
     repeat' first | refine ST ?_ | intro _ | apply And.intro
     all_goals first | exact absurd (‹hasCab h cabin = false›.symm.trans hb) (by decide) | (rw [ho]; done) | (rw [hn]; done) | (rw [ho]; rfl) | (rw [hn]; rfl) | trace_state
 · have hn : nextOffer h cabin = 0 := nextOffer_no (by simpa using hb)
   have ho : offer h cabin = h := by unfold offer; rw [if_pos hn]
   repeat' first | refine ST ?_ | intro _ | apply And.intro
   all_goals first | exact absurd ‹hasCab h cabin = true› hb | (rw [ho]; done) | (rw [hn]; done) | (rw [ho]; rfl) | (rw [hn]; rfl) | trace_state
instance sJudgeScan_c : HC 44 (∀ (W : World) (cs : List Value) (h : House) (cabin : Int) (made : List Int) (v : Value), HsR W cs h → HouseSz h → Rs intL W v made →Sp W [] 44 #[.agg cs.toArray, vi cabin, v] (RV (.bool (judgeScan h cabin made)))) := by
 refine ⟨fun W cs h cabin made v hh hsz ⟨am, cm, em, hcm, hrm⟩ => ?_⟩
 subst em; have hlm := hrm.len
 have hh1 := hh; obtain ⟨a1, c1, a2, c2, a3, c3, a4, c4, a5, c5, rfl, h1, h2, h3, h4, h5, h6, h7, h8, h9, h10⟩ := hh
 refine gENT (vs := [_, _, _]) Tryz.func44 ?_
 by_cases hb : hasCab h cabin = true
 · obtain ⟨hR, hc0, hc1⟩ := hasCab_rep hb
   obtain ⟨hE1, hE2⟩ := expire_hp hb
   repeat' first | refine ST ?_ | intro _ | apply And.intro
   · exact absurd (‹hasCab h cabin = false›.symm.trans hb) (by decide)
   rename_i hx0 q1
   refine gFORG 8 made.length (fun _ => []) [(1, fun q : House × H5 => hCl q.1 q.2)] (fun q => hOs q.1 q.2) (fun k q => HRep q.1 ∧ hasCab q.1 cabin = true ∧ jsGo cabin made (expireM h cabin) = jsGo cabin (made.drop k) q.1) (expireM h cabin, q1) (h0 := ⟨hE1, hE2, rfl⟩) (body := fun k q hk hi => ?_)
   obtain ⟨x, ⟨b1, d1⟩, ⟨b2, d2⟩, ⟨b3, d3⟩, ⟨b4, d4⟩, b5, d5⟩ := q
   obtain ⟨i1, i2, i3⟩ : HRep x ∧ hasCab x cabin = true ∧ jsGo cabin made (expireM h cabin) = jsGo cabin (made.drop k) x := hi
   have hsx := i1.sz; have hpx := hsx.2.1
   obtain ⟨_, ic0, ic1⟩ := hasCab_rep i2
   obtain ⟨o1, o2⟩ := offer_ok i2
   by_cases hkl : k < made.length
   · rw [List.drop_eq_getElem_cons hkl] at i3
     have hal := atId_lt x.parties made[k]
     repeat' first | refine ST ?_ | intro _ | apply And.intro
     all_goals try dsimp only at *
     all_goals first
      | (exfalso; omega)
      | (rw [judgeScan_no (.inr (i3.trans (jsGo_no (.inl ‹_›))))]; done)
      | (have hneg : ¬ atId x.parties made[k] < 0 := ‹_›
         have hfit : fitsB x cabin (x.parties[(atId x.parties made[k]).toNat]'(by omega)) = false := ‹_›
         rw [judgeScan_no (.inr (i3.trans (jsGo_no (.inr (.inl (by rw [partyOf_of (List.getElem?_eq_getElem (by omega))]; exact hfit))))))]; done)
      | (have hpl : 0 < (passed x cabin made[k]).length := by omega
         rw [judgeScan_no (.inr (i3.trans (jsGo_no (.inr (.inr hpl)))))]; done)
      | (have hneg : ¬ atId x.parties made[k] < 0 := ‹_›
         have hfit : fitsB x cabin (x.parties[(atId x.parties made[k]).toNat]'(by omega)) = true := ‹_›
         refine gGBACK (offer x cabin, _) hkl (hLx := by rfl) (h := ?_)
         exact ⟨o1, o2, i3.trans (jsGo_go hneg (by rw [partyOf_of (List.getElem?_eq_getElem (by omega))]; exact hfit) (by omega))⟩)
      | trace_state
   · rw [List.drop_eq_nil_of_le (by omega)] at i3
     have hj := judgeScan_yes (ids := made) hb i3
     repeat' first | refine ST ?_ | intro _ | apply And.intro
     all_goals first | (exfalso; omega) | skip
     refine gFOR 10 x.parties.length (fun k => judgeScan h cabin made = !((x.parties.drop k).any (fitsB x cabin))) hj fun k hk hv => ?_
     by_cases hkl2 : k < x.parties.length
     · rw [List.drop_eq_getElem_cons hkl2, List.any_cons] at hv
       refine gISS (a := b2) (k := fun hs => ?_)
       repeat' first | refine ST ?_ | intro _ | apply And.intro
       all_goals try dsimp only at *
       all_goals first | (exfalso; omega) | (rw [hv]; simp [*]; done) | trace_state
     · rw [List.drop_eq_nil_of_le (by omega)] at hv
       repeat' first | refine ST ?_ | intro _ | apply And.intro
       all_goals try dsimp only at *
       all_goals first | (exfalso; omega) | (rw [hv]; rfl) | trace_state
 · repeat' first | refine ST ?_ | intro _ | apply And.intro
   all_goals first | exact absurd ‹hasCab h cabin = true› hb | (rw [judgeScan_no (.inl (by simpa using hb))]; done) | trace_state
end SX
end Go.Proofs.YthnbaikmbgaddaaGreat
/- The program's side: a scan that is judged. -/
namespace Go.Proofs.YthnbaikmbgaddaaGreat
namespace SX
open Go Go.RowKit
set_option linter.unusedVariables false
set_option linter.unusedSimpArgs false
set_option maxRecDepth 10000
set_option maxHeartbeats 1000000
attribute [local irreducible] CD DN OPL AT QL QT CND RETG BKP HL HT HO slA slHo slP ptC pull pulls
instance iJs1_c : HC 119 (∀ (W : World) (b d : Nat) (cs : List Value) (x : House) (cabin : Int) (p : Party), ElemAt W (some ⟨b, 0, none⟩) 0 cs → ElemAt W (some ⟨d, 0, none⟩) 0 [vi cabin] → HsR W cs x → 0 ≤ cabin → cabin < (x.cabins.length : Int) →Sp W [] 119 #[.agg (partyE p).toArray, .pointer (some ⟨b, 0, none⟩), .pointer (some ⟨d, 0, none⟩)] (RV (.bool (fitsB x cabin p)))) := by
 refine ⟨fun W b d cs x cabin p hb hd hh h0 h1 => ?_⟩
 have hh1 := hh; obtain ⟨a1, c1, a2, c2, a3, c3, a4, c4, a5, c5, rfl, g1, g2, g3, g4, g5, g6, g7, g8, g9, g10⟩ := hh
 refine gENT (vs := [_, _, _]) Tryz.func119 (cVP (d := 1) rfl (cVP (d := 2) rfl ?_))
 repeat' first | refine ST ?_ | refine ST2 ?_ | intro _ | apply And.intro
 all_goals first | rfl | trace_state
instance iJsIx_c : HC 215 (∀ (W : World) (list : List Party) (v : Value) (b d : Nat) (cs : List Value) (x : House) (cabin : Int), Rs partyL W v list → ElemAt W (some ⟨b, 0, none⟩) 0 cs → ElemAt W (some ⟨d, 0, none⟩) 0 [vi cabin] → HsR W cs x → 0 ≤ cabin → cabin < (x.cabins.length : Int) →Sp W [] 215 #[v, .func (.func 119) #[] #[.pointer (some ⟨b, 0, none⟩), .pointer (some ⟨d, 0, none⟩)]] (RV (vi (idxF (fitsB x cabin) list 0)))) := by
 refine ⟨fun W list v b d cs x cabin ⟨a, c, e, hc, hr⟩ hb hd hh h0 h1 => ?_⟩
 subst e; have hl := hr.len
 refine gENT (vs := [_, _]) Tryz.func215 ?_
 repeat' first | refine ST ?_ | refine ST2 ?_ | intro _ | apply And.intro
 refine gFOR 8 list.length (fun k => idxF (fitsB x cabin) list 0 = idxF (fitsB x cabin) (list.drop k) k) rfl fun k hk hv => ?_
 repeat' first | (refine idAT ?_; refine aCa ?_; refine aCV (f := 119) (hcon := by intro c w hw; exact c w b d cs x cabin list[k] (ElemAt.fr hb hw.fr) (ElemAt.fr hd hw.fr) (HouseR.fr hh hw.fr) h0 h1) (k := ?_)) | refine ST ?_ | refine ST2 ?_ | intro _ | apply And.intro
 all_goals grind [idxF, List.drop_eq_getElem_cons]
instance iJsCt_c : HC 118 (∀ (W : World) (list : List Party) (v : Value) (b d : Nat) (cs : List Value) (x : House) (cabin : Int), Rs partyL W v list → ElemAt W (some ⟨b, 0, none⟩) 0 cs → ElemAt W (some ⟨d, 0, none⟩) 0 [vi cabin] → HsR W cs x → 0 ≤ cabin → cabin < (x.cabins.length : Int) →Sp W [] 118 #[v, .func (.func 119) #[] #[.pointer (some ⟨b, 0, none⟩), .pointer (some ⟨d, 0, none⟩)]] (RV (.bool (list.any (fitsB x cabin))))) := by
 refine ⟨fun W list v b d cs x cabin hl hb hd hh h0 h1 => ?_⟩
 have hl1 := hl; obtain ⟨a, c, rfl, hc, hr⟩ := hl
 refine gENT (vs := [_, _]) Tryz.func118 ?_
 repeat' first | (refine idAT ?_; refine aCa ?_; refine aCV (f := 215) (hcon := by intro c w hw; exact c w list _ b d cs x cabin (hl1.fr hw.fr) (ElemAt.fr hb hw.fr) (ElemAt.fr hd hw.fr) (HouseR.fr hh hw.fr) h0 h1) (k := ?_)) | refine ST ?_ | refine ST2 ?_ | intro _ | apply And.intro
 all_goals first | exact idxF_any (fitsB x cabin) list | (rw [← idxF_any (fitsB x cabin) list]; rfl) | trace_state
instance iJudgeScan_c : HC 37 (∀ (W : World) (cs : List Value) (h : House) (cabin : Int) (made : List Int) (v : Value), HsR W cs h → HouseSz h → Rs intL W v made →Sp W [] 37 #[.agg cs.toArray, vi cabin, v] (RV (.bool (judgeScan h cabin made)))) := by
 refine ⟨fun W cs h cabin made v hh hsz ⟨am, cm, em, hcm, hrm⟩ => ?_⟩
 subst em; have hlm := hrm.len
 have hh1 := hh; obtain ⟨a1, c1, a2, c2, a3, c3, a4, c4, a5, c5, rfl, h1, h2, h3, h4, h5, h6, h7, h8, h9, h10⟩ := hh
 refine gENT (vs := [_, _, _]) Tryz.func37 ?_
 by_cases hb : hasCab h cabin = true
 · obtain ⟨hR, hc0, hc1⟩ := hasCab_rep hb
   obtain ⟨hE1, hE2⟩ := expire_hp hb
   repeat' first | refine ST ?_ | refine ST2 ?_ | intro _ | apply And.intro
   · exact absurd (‹hasCab h cabin = false›.symm.trans hb) (by decide)
   rename_i hx0 q1
   refine gFORG 20 made.length (fun _ => []) [(2, fun q : House × H5 => hCl q.1 q.2)] (fun q => hOs q.1 q.2) (fun k q => HRep q.1 ∧ hasCab q.1 cabin = true ∧ jsGo cabin made (expireM h cabin) = jsGo cabin (made.drop k) q.1) (expireM h cabin, q1) (h0 := ⟨hE1, hE2, rfl⟩) (body := fun k q hk hi => ?_)
   obtain ⟨x, ⟨b1, d1⟩, ⟨b2, d2⟩, ⟨b3, d3⟩, ⟨b4, d4⟩, b5, d5⟩ := q
   obtain ⟨i1, i2, i3⟩ : HRep x ∧ hasCab x cabin = true ∧ jsGo cabin made (expireM h cabin) = jsGo cabin (made.drop k) x := hi
   have hsx := i1.sz; have hpx := hsx.2.1
   obtain ⟨_, ic0, ic1⟩ := hasCab_rep i2
   obtain ⟨o1, o2⟩ := offer_ok i2
   by_cases hkl : k < made.length
   · rw [List.drop_eq_getElem_cons hkl] at i3
     have hal := atId_lt x.parties made[k]
     repeat' first | refine ST ?_ | refine ST2 ?_ | intro _ | apply And.intro
     all_goals try dsimp only at *
     all_goals first
      | (exfalso; omega)
      | (rw [judgeScan_no (.inr (i3.trans (jsGo_no (.inl ‹_›))))]; done)
      | (have hneg : ¬ atId x.parties made[k] < 0 := ‹_›
         have hfit : fitsB x cabin (x.parties[(atId x.parties made[k]).toNat]'(by omega)) = false := ‹_›
         rw [judgeScan_no (.inr (i3.trans (jsGo_no (.inr (.inl (by rw [partyOf_of (List.getElem?_eq_getElem (by omega))]; exact hfit))))))]; done)
      | (have hpl : 0 < (passed x cabin made[k]).length := by omega
         rw [judgeScan_no (.inr (i3.trans (jsGo_no (.inr (.inr hpl)))))]; done)
      | (have hneg : ¬ atId x.parties made[k] < 0 := ‹_›
         have hfit : fitsB x cabin (x.parties[(atId x.parties made[k]).toNat]'(by omega)) = true := ‹_›
         refine gGBACK (offer x cabin, _) hkl (hLx := by rfl) (h := ?_)
         exact ⟨o1, o2, i3.trans (jsGo_go hneg (by rw [partyOf_of (List.getElem?_eq_getElem (by omega))]; exact hfit) (by omega))⟩)
      | trace_state
   · rw [List.drop_eq_nil_of_le (by omega)] at i3
     have hj := judgeScan_yes (ids := made) hb i3
     repeat' first | refine ST ?_ | refine ST2 ?_ | intro _ | apply And.intro
     all_goals first | (exfalso; omega) | skip
     refine tOP fun bs hbs => ?_
     obtain ⟨b6, b7, b8, rfl⟩ := len3 hbs
     simp only [expT, expS, expC, List.getElem?_cons_zero, List.getElem?_cons_succ, List.cons_append, List.nil_append]
     repeat' first | (refine idAT ?_; refine aCa ?_; refine aCV (f := 118) (hcon := by intro c w hw; exact c w x.parties _ b8 b7 _ x cabin (Rs.ownN hw NT) (ptC_elem (hw.own 2 rfl)) (ptC_elem (hw.own 1 rfl)) (HouseR.own hw NT NT NT NT NT) ic0 ic1) (k := ?_)) | refine ST ?_ | refine ST2 ?_ | intro _ | apply And.intro
     all_goals first | (rw [hj]; done) | (rw [hj]; rfl) | trace_state
 · repeat' first | refine ST ?_ | refine ST2 ?_ | intro _ | apply And.intro
   all_goals first | exact absurd ‹hasCab h cabin = true› hb | (rw [judgeScan_no (.inl (by simpa using hb))]; done) | trace_state
end SX
end Go.Proofs.YthnbaikmbgaddaaGreat
