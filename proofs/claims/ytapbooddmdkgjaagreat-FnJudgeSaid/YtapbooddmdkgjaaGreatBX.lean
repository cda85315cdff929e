/- The program's side: a scan that is judged. -/
import Derived.Test.YtapbooddmdkgjaaGreatJB1
import Derived.Test.YtapbooddmdkgjaaGreatCA
import Derived.Test.YtapbooddmdkgjaaGreatBS
import Derived.Test.YtapbooddmdkgjaaGreatAZ
namespace Go.Proofs.YtapbooddmdkgjaaGreat
namespace SX
open Go Go.RowKit
set_option linter.unusedVariables false
set_option linter.unusedSimpArgs false
set_option maxRecDepth 10000
set_option maxHeartbeats 1000000
attribute [local irreducible] CD DN OPL AT QL QT CND RETG BKP HL HT HO slA slHo slP ptC pull pulls
instance iJs1_c : HC 103 (∀ (W : World) (b d : Nat) (cs : List Value) (x : House) (cabin : Int) (p : Party), ElemAt W (some ⟨b, 0, none⟩) 0 cs → ElemAt W (some ⟨d, 0, none⟩) 0 [vi cabin] → HsR W cs x → 0 ≤ cabin → cabin < (x.cabins.length : Int) →Sp W [] 103 #[.agg (partyE p).toArray, .pointer (some ⟨b, 0, none⟩), .pointer (some ⟨d, 0, none⟩)] (RV (.bool (fitsB x cabin p)))) := by
 refine ⟨fun W b d cs x cabin p hb hd hh h0 h1 => ?_⟩
 have hh1 := hh; obtain ⟨a1, c1, a2, c2, a3, c3, a4, c4, a5, c5, rfl, g1, g2, g3, g4, g5, g6, g7, g8, g9, g10⟩ := hh
 refine gENT (vs := [_, _, _]) Tryz.func103 (cVP (d := 1) rfl (cVP (d := 2) rfl ?_))
 repeat' first | refine ST ?_ | refine ST2 ?_ | intro _ | apply And.intro
 all_goals first | rfl | trace_state
instance iJsIx_c : HC 200 (∀ (W : World) (list : List Party) (v : Value) (b d : Nat) (cs : List Value) (x : House) (cabin : Int), Rs partyL W v list → ElemAt W (some ⟨b, 0, none⟩) 0 cs → ElemAt W (some ⟨d, 0, none⟩) 0 [vi cabin] → HsR W cs x → 0 ≤ cabin → cabin < (x.cabins.length : Int) →Sp W [] 200 #[v, .func (.func 103) #[] #[.pointer (some ⟨b, 0, none⟩), .pointer (some ⟨d, 0, none⟩)]] (RV (vi (idxF (fitsB x cabin) list 0)))) := by
 refine ⟨fun W list v b d cs x cabin ⟨a, c, e, hc, hr⟩ hb hd hh h0 h1 => ?_⟩
 subst e; have hl := hr.len
 refine gENT (vs := [_, _]) Tryz.func200 ?_
 repeat' first | refine ST ?_ | refine ST2 ?_ | intro _ | apply And.intro
 refine gFOR 8 list.length (fun k => idxF (fitsB x cabin) list 0 = idxF (fitsB x cabin) (list.drop k) k) rfl fun k hk hv => ?_
 repeat' first | (refine idAT ?_; refine aCa ?_; refine aCV (f := 103) (hcon := by intro c w hw; exact c w b d cs x cabin list[k] (ElemAt.fr hb hw.fr) (ElemAt.fr hd hw.fr) (HouseR.fr hh hw.fr) h0 h1) (k := ?_)) | refine ST ?_ | refine ST2 ?_ | intro _ | apply And.intro
 all_goals grind [idxF, List.drop_eq_getElem_cons]
instance iJsCt_c : HC 102 (∀ (W : World) (list : List Party) (v : Value) (b d : Nat) (cs : List Value) (x : House) (cabin : Int), Rs partyL W v list → ElemAt W (some ⟨b, 0, none⟩) 0 cs → ElemAt W (some ⟨d, 0, none⟩) 0 [vi cabin] → HsR W cs x → 0 ≤ cabin → cabin < (x.cabins.length : Int) →Sp W [] 102 #[v, .func (.func 103) #[] #[.pointer (some ⟨b, 0, none⟩), .pointer (some ⟨d, 0, none⟩)]] (RV (.bool (list.any (fitsB x cabin))))) := by
 refine ⟨fun W list v b d cs x cabin hl hb hd hh h0 h1 => ?_⟩
 have hl1 := hl; obtain ⟨a, c, rfl, hc, hr⟩ := hl
 refine gENT (vs := [_, _]) Tryz.func102 ?_
 repeat' first | (refine idAT ?_; refine aCa ?_; refine aCV (f := 200) (hcon := by intro c w hw; exact c w list _ b d cs x cabin (hl1.fr hw.fr) (ElemAt.fr hb hw.fr) (ElemAt.fr hd hw.fr) (HouseR.fr hh hw.fr) h0 h1) (k := ?_)) | refine ST ?_ | refine ST2 ?_ | intro _ | apply And.intro
 all_goals first | exact idxF_any (fitsB x cabin) list | (rw [← idxF_any (fitsB x cabin) list]; rfl) | trace_state
instance iJudgeScan_c : HC 35 (∀ (W : World) (cs : List Value) (h : House) (cabin : Int) (made : List Int) (v : Value), HsR W cs h → HouseSz h → Rs intL W v made →Sp W [] 35 #[.agg cs.toArray, vi cabin, v] (RV (.bool (judgeScan h cabin made)))) := by
 refine ⟨fun W cs h cabin made v hh hsz ⟨am, cm, em, hcm, hrm⟩ => ?_⟩
 subst em; have hlm := hrm.len
 have hh1 := hh; obtain ⟨a1, c1, a2, c2, a3, c3, a4, c4, a5, c5, rfl, h1, h2, h3, h4, h5, h6, h7, h8, h9, h10⟩ := hh
 refine gENT (vs := [_, _, _]) Tryz.func35 ?_
 by_cases hb : hasCab h cabin = true
 · obtain ⟨hR, hc0, hc1⟩ := hasCab_rep hb
   obtain ⟨hE1, hE2⟩ := expire_hp hb
   repeat' first | refine ST ?_ | refine ST2 ?_ | intro _ | apply And.intro
   · exact absurd (‹hasCab h cabin = false›.symm.trans hb) (by decide)
   rename_i hx0 q1
   refine gFORG 20 made.length (fun _ => []) [(2, fun q : House × H5 => hCl q.1 q.2)] (fun q => hOs q.1 q.2) (fun k q => HRep q.1 ∧ hasCab q.1 cabin = true ∧ jsGo cabin made (expireM h cabin) = jsGo cabin (made.drop k) q.1) (expireM h cabin, q1) (h0 := ⟨hE1, hE2, rfl⟩) (body := fun k q hk hi => ?_)
   obtain ⟨x, ⟨b1, d1⟩, ⟨b2, d2⟩, ⟨b3, d3⟩, ⟨b4, d4⟩, b5, d5⟩ := q
   obtain ⟨i1, i2, i3⟩ : HRep x ∧ hasCab x cabin = true ∧ jsGo cabin made (expireM h cabin) = jsGo cabin (made.drop k) x := hi
   have hsx := i1.sz; have hpx := hsx.2.1
   obtain ⟨_, ic0, ic1⟩ := hasCab_rep i2
   obtain ⟨o1, o2⟩ := offer_ok i2
   by_cases hkl : k < made.length
   · rw [List.drop_eq_getElem_cons hkl] at i3
     have hal := atId_lt x.parties made[k]
     repeat' first | refine ST ?_ | refine ST2 ?_ | intro _ | apply And.intro
     all_goals try dsimp only at *
     all_goals first
      | (exfalso; omega)
      | (rw [judgeScan_no (.inr (i3.trans (jsGo_no (.inl ‹_›))))]; done)
      | (have hneg : ¬ atId x.parties made[k] < 0 := ‹_›
         have hfit : fitsB x cabin (x.parties[(atId x.parties made[k]).toNat]'(by omega)) = false := ‹_›
         rw [judgeScan_no (.inr (i3.trans (jsGo_no (.inr (.inl (by rw [partyOf_of (List.getElem?_eq_getElem (by omega))]; exact hfit))))))]; done)
      | (have hpl : 0 < (passed x cabin made[k]).length := by omega
         rw [judgeScan_no (.inr (i3.trans (jsGo_no (.inr (.inr hpl)))))]; done)
      | (have hneg : ¬ atId x.parties made[k] < 0 := ‹_›
         have hfit : fitsB x cabin (x.parties[(atId x.parties made[k]).toNat]'(by omega)) = true := ‹_›
         refine gGBACK (offer x cabin, _) hkl (hLx := by rfl) (h := ?_)
         exact ⟨o1, o2, i3.trans (jsGo_go hneg (by rw [partyOf_of (List.getElem?_eq_getElem (by omega))]; exact hfit) (by omega))⟩)
      | trace_state
   · rw [List.drop_eq_nil_of_le (by omega)] at i3
     have hj := judgeScan_yes (ids := made) hb i3
     repeat' first | refine ST ?_ | refine ST2 ?_ | intro _ | apply And.intro
     all_goals first | (exfalso; omega) | skip
     refine tOP fun bs hbs => ?_
     obtain ⟨b6, b7, b8, rfl⟩ := len3 hbs
     simp only [expT, expS, expC, List.getElem?_cons_zero, List.getElem?_cons_succ, List.cons_append, List.nil_append]
     repeat' first | (refine idAT ?_; refine aCa ?_; refine aCV (f := 102) (hcon := by intro c w hw; exact c w x.parties _ b8 b7 _ x cabin (Rs.ownN hw NT) (ptC_elem (hw.own 2 rfl)) (ptC_elem (hw.own 1 rfl)) (HouseR.own hw NT NT NT NT NT) ic0 ic1) (k := ?_)) | refine ST ?_ | refine ST2 ?_ | intro _ | apply And.intro
     all_goals first | (rw [hj]; done) | (rw [hj]; rfl) | trace_state
 · repeat' first | refine ST ?_ | refine ST2 ?_ | intro _ | apply And.intro
   all_goals first | exact absurd ‹hasCab h cabin = true› hb | (rw [judgeScan_no (.inl (by simpa using hb))]; done) | trace_state
end SX
end Go.Proofs.YtapbooddmdkgjaaGreat
