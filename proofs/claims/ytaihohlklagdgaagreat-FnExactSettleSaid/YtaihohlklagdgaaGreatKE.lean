/- The laws' comparisons, by the engine (in place of the second half of the printed K2). -/
import Derived.Test.YtaihohlklagdgaaGreatAE
import Derived.Test.YtaihohlklagdgaaGreatMdlm
namespace Go.Proofs.YtaihohlklagdgaaGreat
namespace SX
open Go Go.RowKit
set_option linter.unusedVariables false
set_option linter.unusedSimpArgs false
set_option maxRecDepth 10000
set_option maxHeartbeats 1000000
attribute [local irreducible] CD DN OPL AT QL QT CND RETG BKP HL HT HO slA slHo slP ptC pull pulls
theorem eqL_drop {α : Type} (f : α → α → Bool) {x y : List α} {k : Nat} (hx : k < x.length) (hy : k < y.length) : eqL f (x.drop k) (y.drop k) = (f x[k] y[k] && eqL f (x.drop (k + 1)) (y.drop (k + 1))) := by
  rw [List.drop_eq_getElem_cons hx, List.drop_eq_getElem_cons hy, eqL]
theorem eqL_end {α : Type} (f : α → α → Bool) {x y : List α} {k : Nat} (hx : x.length ≤ k) (hy : y.length ≤ k) : eqL f (x.drop k) (y.drop k) = true := by
  rw [List.drop_eq_nil_of_le hx, List.drop_eq_nil_of_le hy]; rfl
theorem eqInts_L : ∀ (x y : List Int), eqInts x y = eqL (fun a b => a == b) x y
  | [], [] => rfl
  | [], _ :: _ => rfl
  | _ :: _, [] => rfl
  | a :: x, b :: y => by
    simp only [eqInts, eqL, ← eqInts_L x y]
    by_cases h : a = b <;> simp [h]
instance keqParty_c : HC 128 (∀ (W : World) (a b : Party),Sp W [] 128 #[.agg (partyE a).toArray, .agg (partyE b).toArray] (RV (.bool (eqParty a b)))) := by
 refine ⟨fun W a b => gENT (vs := [_, _]) Tryz.func128 ?_⟩
 repeat' first | refine ST ?_ | intro _ | apply And.intro
 all_goals simp_all [eqParty]
instance keqEntry_c : HC 287 (∀ (W : World) (a b : Entry),Sp W [] 287 #[.agg (entryE a).toArray, .agg (entryE b).toArray] (RV (.bool (eqEntry a b)))) := by
 refine ⟨fun W a b => gENT (vs := [_, _]) Tryz.func287 ?_⟩
 repeat' first | refine ST ?_ | intro _ | apply And.intro
 all_goals simp_all [eqEntry]
instance keqPin_c : HC 368 (∀ (W : World) (a b : Pin),Sp W [] 368 #[.agg (pinE a).toArray, .agg (pinE b).toArray] (RV (.bool (eqPin a b)))) := by
 refine ⟨fun W a b => gENT (vs := [_, _]) Tryz.func368 ?_⟩
 repeat' first | refine ST ?_ | intro _ | apply And.intro
 all_goals simp_all [eqPin]
instance keqLedger_c : HC 216 (∀ (W : World) (a b : Ledger),Sp W [] 216 #[.agg (ledgerE a).toArray, .agg (ledgerE b).toArray] (RV (.bool (eqLedger a b)))) := by
 refine ⟨fun W a b => gENT (vs := [_, _]) Tryz.func216 ?_⟩
 repeat' first | refine ST ?_ | intro _ | apply And.intro
 all_goals simp_all [eqLedger]
instance keqIntS_c : HC 21 (∀ (W : World) (x y : List Int) (v u : Value), Rs intL W v x → Rs intL W u y →Sp W [] 21 #[v, u] (RV (.bool (eqInts x y)))) := by
 refine ⟨fun W x y v u ⟨a, c, e, hc, hr⟩ ⟨a2, c2, e2, hc2, hr2⟩ => ?_⟩
 subst e e2; have hl := hr.len; have hl2 := hr2.len
 rw [eqInts_L]; refine gENT (vs := [_, _]) Tryz.func21 ?_
 by_cases hn : x.length = y.length
 · repeat' first | refine ST ?_ | intro _ | apply And.intro
   all_goals first | (exfalso; omega) | skip
   refine gFOR 5 x.length (fun k => eqL (fun a b : Int => a == b) x y = eqL (fun a b : Int => a == b) (x.drop k) (y.drop k)) rfl fun k hk hv => ?_
   by_cases hkl : k < x.length
   · rw [eqL_drop _ hkl (by omega)] at hv
     repeat' first | refine ST ?_ | intro _ | apply And.intro
     all_goals first | (exfalso; omega) | (rw [hv]; simp [*]; done) | (rw [hv]; simp_all; done) | trace_state
   · rw [eqL_end _ (by omega) (by omega)] at hv
     repeat' first | refine ST ?_ | intro _ | apply And.intro
     all_goals first | (exfalso; omega) | exact hv.symm | trace_state
 · have he := eqL_ne (f := (fun a b : Int => a == b)) hn
   repeat' first | refine ST ?_ | intro _ | apply And.intro
   all_goals first | exact he.symm | (exfalso; omega) | trace_state
instance keqPartyS_c : HC 59 (∀ (W : World) (x y : List Party) (v u : Value), Rs partyL W v x → Rs partyL W u y →Sp W [] 59 #[v, u] (RV (.bool (eqL eqParty x y)))) := by
 refine ⟨fun W x y v u ⟨a, c, e, hc, hr⟩ ⟨a2, c2, e2, hc2, hr2⟩ => ?_⟩
 subst e e2; have hl := hr.len; have hl2 := hr2.len
 refine gENT (vs := [_, _]) Tryz.func59 ?_
 by_cases hn : x.length = y.length
 · repeat' first | refine ST ?_ | intro _ | apply And.intro
   all_goals first | (exfalso; omega) | skip
   refine gFOR 5 x.length (fun k => eqL eqParty x y = eqL eqParty (x.drop k) (y.drop k)) rfl fun k hk hv => ?_
   by_cases hkl : k < x.length
   · rw [eqL_drop _ hkl (by omega)] at hv
     repeat' first | refine ST ?_ | intro _ | apply And.intro
     all_goals first | (exfalso; omega) | (rw [hv]; simp [*]; done) | (rw [hv]; simp_all; done) | trace_state
   · rw [eqL_end _ (by omega) (by omega)] at hv
     repeat' first | refine ST ?_ | intro _ | apply And.intro
     all_goals first | (exfalso; omega) | exact hv.symm | trace_state
 · have he := eqL_ne (f := eqParty) hn
   repeat' first | refine ST ?_ | intro _ | apply And.intro
   all_goals first | exact he.symm | (exfalso; omega) | trace_state
instance keqEntryS_c : HC 217 (∀ (W : World) (x y : List Entry) (v u : Value), Rs entryL W v x → Rs entryL W u y →Sp W [] 217 #[v, u] (RV (.bool (eqL eqEntry x y)))) := by
 refine ⟨fun W x y v u ⟨a, c, e, hc, hr⟩ ⟨a2, c2, e2, hc2, hr2⟩ => ?_⟩
 subst e e2; have hl := hr.len; have hl2 := hr2.len
 refine gENT (vs := [_, _]) Tryz.func217 ?_
 by_cases hn : x.length = y.length
 · repeat' first | refine ST ?_ | intro _ | apply And.intro
   all_goals first | (exfalso; omega) | skip
   refine gFOR 5 x.length (fun k => eqL eqEntry x y = eqL eqEntry (x.drop k) (y.drop k)) rfl fun k hk hv => ?_
   by_cases hkl : k < x.length
   · rw [eqL_drop _ hkl (by omega)] at hv
     repeat' first | refine ST ?_ | intro _ | apply And.intro
     all_goals first | (exfalso; omega) | (rw [hv]; simp [*]; done) | (rw [hv]; simp_all; done) | trace_state
   · rw [eqL_end _ (by omega) (by omega)] at hv
     repeat' first | refine ST ?_ | intro _ | apply And.intro
     all_goals first | (exfalso; omega) | exact hv.symm | trace_state
 · have he := eqL_ne (f := eqEntry) hn
   repeat' first | refine ST ?_ | intro _ | apply And.intro
   all_goals first | exact he.symm | (exfalso; omega) | trace_state
instance keqPinS_c : HC 343 (∀ (W : World) (x y : List Pin) (v u : Value), Rs pinL W v x → Rs pinL W u y →Sp W [] 343 #[v, u] (RV (.bool (eqL eqPin x y)))) := by
 refine ⟨fun W x y v u ⟨a, c, e, hc, hr⟩ ⟨a2, c2, e2, hc2, hr2⟩ => ?_⟩
 subst e e2; have hl := hr.len; have hl2 := hr2.len
 refine gENT (vs := [_, _]) Tryz.func343 ?_
 by_cases hn : x.length = y.length
 · repeat' first | refine ST ?_ | intro _ | apply And.intro
   all_goals first | (exfalso; omega) | skip
   refine gFOR 5 x.length (fun k => eqL eqPin x y = eqL eqPin (x.drop k) (y.drop k)) rfl fun k hk hv => ?_
   by_cases hkl : k < x.length
   · rw [eqL_drop _ hkl (by omega)] at hv
     repeat' first | refine ST ?_ | intro _ | apply And.intro
     all_goals first | (exfalso; omega) | (rw [hv]; simp [*]; done) | (rw [hv]; simp_all; done) | trace_state
   · rw [eqL_end _ (by omega) (by omega)] at hv
     repeat' first | refine ST ?_ | intro _ | apply And.intro
     all_goals first | (exfalso; omega) | exact hv.symm | trace_state
 · have he := eqL_ne (f := eqPin) hn
   repeat' first | refine ST ?_ | intro _ | apply And.intro
   all_goals first | exact he.symm | (exfalso; omega) | trace_state
instance keqPinSS_c : HC 288 (∀ (W : World) (x y : List (List Pin)) (v u : Value), Rs (sl 174 pinL) W v x → Rs (sl 174 pinL) W u y →Sp W [] 288 #[v, u] (RV (.bool (eqL (eqL eqPin) x y)))) := by
 refine ⟨fun W x y v u ⟨a, c, e, hc, hr⟩ ⟨a2, c2, e2, hc2, hr2⟩ => ?_⟩
 subst e e2; have hl := hr.len; have hl2 := hr2.len
 refine gENT (vs := [_, _]) Tryz.func288 ?_
 by_cases hn : x.length = y.length
 · repeat' first | refine ST ?_ | intro _ | apply And.intro
   all_goals first | (exfalso; omega) | skip
   refine gFOR 5 x.length (fun k => eqL (eqL eqPin) x y = eqL (eqL eqPin) (x.drop k) (y.drop k)) rfl fun k hk hv => ?_
   by_cases hkl : k < x.length
   · rw [eqL_drop _ hkl (by omega)] at hv
     repeat' first | refine ST ?_ | intro _ | apply And.intro
     all_goals first | (exfalso; omega) | (rw [hv]; simp [*]; done) | (rw [hv]; simp_all; done) | trace_state
   · rw [eqL_end _ (by omega) (by omega)] at hv
     repeat' first | refine ST ?_ | intro _ | apply And.intro
     all_goals first | (exfalso; omega) | exact hv.symm | trace_state
 · have he := eqL_ne (f := (eqL eqPin)) hn
   repeat' first | refine ST ?_ | intro _ | apply And.intro
   all_goals first | exact he.symm | (exfalso; omega) | trace_state
instance keqWheel_c : HC 218 (∀ (W : World) (a b : Wheel) (v u : Value), Rs (sl 174 pinL) W v a.spoke → Rs (sl 174 pinL) W u b.spoke →Sp W [] 218 #[.agg #[v], .agg #[u]] (RV (.bool (eqL (eqL eqPin) a.spoke b.spoke)))) := by
 refine ⟨fun W a b v u h1 h2 => ?_⟩
 have g1 := h1; have g2 := h2
 obtain ⟨a1, c1, rfl, hc1, hr1⟩ := h1; obtain ⟨a2, c2, rfl, hc2, hr2⟩ := h2
 refine gENT (vs := [_, _]) Tryz.func218 ?_
 repeat' first | refine ST ?_ | intro _ | apply And.intro
 all_goals first | (simp_all; done) | trace_state
instance keqCabin_c : HC 129 (∀ (W : World) (cs ds : List Value) (a b : Cabin), CabinR 174 W cs a → CabinR 174 W ds b →Sp W [] 129 #[.agg cs.toArray, .agg ds.toArray] (RV (.bool (eqCabin a b)))) := by
 refine ⟨fun W cs ds a b ⟨a1, c1, a2, c2, e1, h1, h2, h3, h4⟩ ⟨b1, d1, b2, d2, e2, g1, g2, g3, g4⟩ => ?_⟩
 subst e1 e2
 refine gENT (vs := [_, _]) Tryz.func129 ?_
 repeat' first | refine ST ?_ | intro _ | apply And.intro
 all_goals first | (simp_all [eqCabin]; done) | trace_state
instance keqCabinS_c : HC 60 (∀ (W : World) (x y : List Cabin) (v u : Value), Rs (cabinLx 196 189 174) W v x → Rs (cabinLx 196 189 174) W u y →Sp W [] 60 #[v, u] (RV (.bool (eqL eqCabin x y)))) := by
 refine ⟨fun W x y v u ⟨a, c, e, hc, hr⟩ ⟨a2, c2, e2, hc2, hr2⟩ => ?_⟩
 subst e e2; have hl := hr.len; have hl2 := hr2.len
 refine gENT (vs := [_, _]) Tryz.func60 ?_
 by_cases hn : x.length = y.length
 · repeat' first | refine ST ?_ | intro _ | apply And.intro
   all_goals first | (exfalso; omega) | skip
   refine gFOR 5 x.length (fun k => eqL eqCabin x y = eqL eqCabin (x.drop k) (y.drop k)) rfl fun k hk hv => ?_
   by_cases hkl : k < x.length
   · rw [eqL_drop _ hkl (by omega)] at hv
     repeat' first | refine ST ?_ | intro _ | apply And.intro
     all_goals first | (exfalso; omega) | (rw [hv]; simp [*]; done) | (rw [hv]; simp_all; done) | trace_state
   · rw [eqL_end _ (by omega) (by omega)] at hv
     repeat' first | refine ST ?_ | intro _ | apply And.intro
     all_goals first | (exfalso; omega) | exact hv.symm | trace_state
 · have he := eqL_ne (f := eqCabin) hn
   repeat' first | refine ST ?_ | intro _ | apply And.intro
   all_goals first | exact he.symm | (exfalso; omega) | trace_state
instance keqRules_c : HC 58 (∀ (W : World) (cs ds : List Value) (a b : Rules), RulesR W cs a → RulesR W ds b →Sp W [] 58 #[.agg cs.toArray, .agg ds.toArray] (RV (.bool (eqRules a b)))) := by
 refine ⟨fun W cs ds a b ⟨a1, c1, e1, h1, h2⟩ ⟨b1, d1, e2, g1, g2⟩ => ?_⟩
 subst e1 e2
 refine gENT (vs := [_, _]) Tryz.func58 ?_
 repeat' first | refine ST ?_ | intro _ | apply And.intro
 all_goals first | (simp_all [eqRules]; done) | trace_state
instance keqHouse_c : HC 14 (∀ (W : World) (cs : List Value) (h : House) (ds : List Value) (g : House), HouseR 196 189 174 W cs h → HouseR 196 189 174 W ds g →Sp W [] 14 #[.agg cs.toArray, .agg ds.toArray] (RV (.bool (eqHouse h g)))) := by
 refine ⟨fun W cs h ds g hh hg => ?_⟩
 obtain ⟨a1, c1, a2, c2, a3, c3, a4, c4, a5, c5, rfl, h1, h2, h3, h4, h5, h6, h7, h8, h9, h10⟩ := hh
 obtain ⟨b1, d1, b2, d2, b3, d3, b4, d4, b5, d5, rfl, g1, g2, g3, g4, g5, g6, g7, g8, g9, g10⟩ := hg
 refine gENT (vs := [_, _]) Tryz.func14 ?_
 repeat' first | refine ST ?_ | intro _ | apply And.intro
 all_goals first | (simp_all [eqHouse]; done) | trace_state
end SX
end Go.Proofs.YtaihohlklagdgaaGreat
