/- The laws' comparisons, by the engine (in place of the second half of the printed K2). -/
import Derived.Test.YtejojcoaohlfbaaGreatAE
import Derived.Test.YtejojcoaohlfbaaGreatMdlm
namespace Go.Proofs.YtejojcoaohlfbaaGreat
namespace SX
open Go Go.RowKit
set_option linter.unusedVariables false
set_option linter.unusedSimpArgs false
set_option maxRecDepth 10000
set_option maxHeartbeats 1000000
attribute [local irreducible] CD DN OPL AT QL QT CND RETG BKP HL HT HO slA slHo slP ptC pull pulls
theorem eqL_drop {α : Type} (f : α → α → Bool) {x y : List α} {k : Nat} (hx : k < x.length) (hy : k < y.length) : eqL f (x.drop k) (y.drop k) = (f x[k] y[k] && eqL f (x.drop (k + 1)) (y.drop (k + 1))) := by
 rw [List.drop_eq_getElem_cons hx, List.drop_eq_getElem_cons hy, eqL]
theorem eqL_end {α : Type} (f : α → α → Bool) {x y : List α} {k : Nat} (hx : x.length ≤ k) (hy : y.length ≤ k) : eqL f (x.drop k) (y.drop k) = true := by
 rw [List.drop_eq_nil_of_le hx, List.drop_eq_nil_of_le hy]; rfl
theorem eqInts_L : ∀ (x y : List Int), eqInts x y = eqL (fun a b => a == b) x y
 | [], [] => rfl
 | [], _ :: _ => rfl
 | _ :: _, [] => rfl
 | a :: x, b :: y => by
   simp only [eqInts, eqL, ← eqInts_L x y]
   by_cases h : a = b <;> simp [h]
instance keqParty_c : HC 195 (∀ (W : World) (a b : Party),Sp W [] 195 #[.agg (partyE a).toArray, .agg (partyE b).toArray] (RV (.bool (eqParty a b)))) := by
 refine ⟨fun W a b => gENT (vs := [_, _]) Tryz.func195 ?_⟩
 repeat' first | refine ST ?_ | intro _ | apply And.intro
 all_goals simp_all [eqParty]
instance keqEntry_c : HC 351 (∀ (W : World) (a b : Entry),Sp W [] 351 #[.agg (entryE a).toArray, .agg (entryE b).toArray] (RV (.bool (eqEntry a b)))) := by
 refine ⟨fun W a b => gENT (vs := [_, _]) Tryz.func351 ?_⟩
 repeat' first | refine ST ?_ | intro _ | apply And.intro
 all_goals simp_all [eqEntry]
instance keqPin_c : HC 399 (∀ (W : World) (a b : Pin),Sp W [] 399 #[.agg (pinE a).toArray, .agg (pinE b).toArray] (RV (.bool (eqPin a b)))) := by
 refine ⟨fun W a b => gENT (vs := [_, _]) Tryz.func399 ?_⟩
 repeat' first | refine ST ?_ | intro _ | apply And.intro
 all_goals simp_all [eqPin]
instance keqLedger_c : HC 289 (∀ (W : World) (a b : Ledger),Sp W [] 289 #[.agg (ledgerE a).toArray, .agg (ledgerE b).toArray] (RV (.bool (eqLedger a b)))) := by
 refine ⟨fun W a b => gENT (vs := [_, _]) Tryz.func289 ?_⟩
 repeat' first | refine ST ?_ | intro _ | apply And.intro
 all_goals simp_all [eqLedger]
instance keqIntS_c : HC 22 (∀ (W : World) (x y : List Int) (v u : Value), Rs intL W v x → Rs intL W u y →Sp W [] 22 #[v, u] (RV (.bool (eqInts x y)))) := by
 refine ⟨fun W x y v u ⟨a, c, e, hc, hr⟩ ⟨a2, c2, e2, hc2, hr2⟩ => ?_⟩
 subst e e2; have hl := hr.len; have hl2 := hr2.len
 rw [eqInts_L]; refine gENT (vs := [_, _]) Tryz.func22 ?_
 by_cases hn : x.length = y.length
 · repeat' first | refine ST ?_ | intro _ | apply And.intro
   all_goals first | (exfalso; omega) | skip
   refine gFOR 5 x.length (fun k => eqL (fun a b : Int => a == b) x y = eqL (fun a b : Int => a == b) (x.drop k) (y.drop k)) rfl fun k hk hv => ?_
   by_cases hkl : k < x.length
   · rw [eqL_drop _ hkl (by omega)] at hv
     repeat' first | refine ST ?_ | intro _ | apply And.intro
     all_goals first | (exfalso; omega) | (rw [hv]; simp [*]; done) | (rw [hv]; simp_all; done) | trace_state
   · rw [eqL_end _ (by omega) (by omega)] at hv
     repeat' first | refine ST ?_ | intro _ | apply And.intro
     all_goals first | (exfalso; omega) | exact hv.symm | trace_state
 · have he := eqL_ne (f := (fun a b : Int => a == b)) hn
   repeat' first | refine ST ?_ | intro _ | apply And.intro
   all_goals first | exact he.symm | (exfalso; omega) | trace_state
instance keqPartyS_c : HC 94 (∀ (W : World) (x y : List Party) (v u : Value), Rs partyL W v x → Rs partyL W u y →Sp W [] 94 #[v, u] (RV (.bool (eqL eqParty x y)))) := by
 refine ⟨fun W x y v u ⟨a, c, e, hc, hr⟩ ⟨a2, c2, e2, hc2, hr2⟩ => ?_⟩
 subst e e2; have hl := hr.len; have hl2 := hr2.len
 refine gENT (vs := [_, _]) Tryz.func94 ?_
 by_cases hn : x.length = y.length
 · repeat' first | refine ST ?_ | intro _ | apply And.intro
   all_goals first | (exfalso; omega) | skip
   refine gFOR 5 x.length (fun k => eqL eqParty x y = eqL eqParty (x.drop k) (y.drop k)) rfl fun k hk hv => ?_
   by_cases hkl : k < x.length
   · rw [eqL_drop _ hkl (by omega)] at hv
     repeat' first | refine ST ?_ | intro _ | apply And.intro
     all_goals first | (exfalso; omega) | (rw [hv]; simp [*]; done) | (rw [hv]; simp_all; done) | trace_state
   · rw [eqL_end _ (by omega) (by omega)] at hv
     repeat' first | refine ST ?_ | intro _ | apply And.intro
     all_goals first | (exfalso; omega) | exact hv.symm | trace_state
 · have he := eqL_ne (f := eqParty) hn
   repeat' first | refine ST ?_ | intro _ | apply And.intro
   all_goals first | exact he.symm | (exfalso; omega) | trace_state
instance keqEntryS_c : HC 290 (∀ (W : World) (x y : List Entry) (v u : Value), Rs entryL W v x → Rs entryL W u y →Sp W [] 290 #[v, u] (RV (.bool (eqL eqEntry x y)))) := by
 refine ⟨fun W x y v u ⟨a, c, e, hc, hr⟩ ⟨a2, c2, e2, hc2, hr2⟩ => ?_⟩
 subst e e2; have hl := hr.len; have hl2 := hr2.len
 refine gENT (vs := [_, _]) Tryz.func290 ?_
 by_cases hn : x.length = y.length
 · repeat' first | refine ST ?_ | intro _ | apply And.intro
   all_goals first | (exfalso; omega) | skip
   refine gFOR 5 x.length (fun k => eqL eqEntry x y = eqL eqEntry (x.drop k) (y.drop k)) rfl fun k hk hv => ?_
   by_cases hkl : k < x.length
   · rw [eqL_drop _ hkl (by omega)] at hv
     repeat' first | refine ST ?_ | intro _ | apply And.intro
     all_goals first | (exfalso; omega) | (rw [hv]; simp [*]; done) | (rw [hv]; simp_all; done) | trace_state
   · rw [eqL_end _ (by omega) (by omega)] at hv
     repeat' first | refine ST ?_ | intro _ | apply And.intro
     all_goals first | (exfalso; omega) | exact hv.symm | trace_state
 · have he := eqL_ne (f := eqEntry) hn
   repeat' first | refine ST ?_ | intro _ | apply And.intro
   all_goals first | exact he.symm | (exfalso; omega) | trace_state
instance keqPinS_c : HC 381 (∀ (W : World) (x y : List Pin) (v u : Value), Rs pinL W v x → Rs pinL W u y →Sp W [] 381 #[v, u] (RV (.bool (eqL eqPin x y)))) := by
 refine ⟨fun W x y v u ⟨a, c, e, hc, hr⟩ ⟨a2, c2, e2, hc2, hr2⟩ => ?_⟩
 subst e e2; have hl := hr.len; have hl2 := hr2.len
 refine gENT (vs := [_, _]) Tryz.func381 ?_
 by_cases hn : x.length = y.length
 · repeat' first | refine ST ?_ | intro _ | apply And.intro
   all_goals first | (exfalso; omega) | skip
   refine gFOR 5 x.length (fun k => eqL eqPin x y = eqL eqPin (x.drop k) (y.drop k)) rfl fun k hk hv => ?_
   by_cases hkl : k < x.length
   · rw [eqL_drop _ hkl (by omega)] at hv
     repeat' first | refine ST ?_ | intro _ | apply And.intro
     all_goals first | (exfalso; omega) | (rw [hv]; simp [*]; done) | (rw [hv]; simp_all; done) | trace_state
   · rw [eqL_end _ (by omega) (by omega)] at hv
     repeat' first | refine ST ?_ | intro _ | apply And.intro
     all_goals first | (exfalso; omega) | exact hv.symm | trace_state
 · have he := eqL_ne (f := eqPin) hn
   repeat' first | refine ST ?_ | intro _ | apply And.intro
   all_goals first | exact he.symm | (exfalso; omega) | trace_state
instance keqPinSS_c : HC 352 (∀ (W : World) (x y : List (List Pin)) (v u : Value), Rs (sl 166 pinL) W v x → Rs (sl 166 pinL) W u y →Sp W [] 352 #[v, u] (RV (.bool (eqL (eqL eqPin) x y)))) := by
 refine ⟨fun W x y v u ⟨a, c, e, hc, hr⟩ ⟨a2, c2, e2, hc2, hr2⟩ => ?_⟩
 subst e e2; have hl := hr.len; have hl2 := hr2.len
 refine gENT (vs := [_, _]) Tryz.func352 ?_
 by_cases hn : x.length = y.length
 · repeat' first | refine ST ?_ | intro _ | apply And.intro
   all_goals first | (exfalso; omega) | skip
   refine gFOR 5 x.length (fun k => eqL (eqL eqPin) x y = eqL (eqL eqPin) (x.drop k) (y.drop k)) rfl fun k hk hv => ?_
   by_cases hkl : k < x.length
   · rw [eqL_drop _ hkl (by omega)] at hv
     repeat' first | refine ST ?_ | intro _ | apply And.intro
     all_goals first | (exfalso; omega) | (rw [hv]; simp [*]; done) | (rw [hv]; simp_all; done) | trace_state
   · rw [eqL_end _ (by omega) (by omega)] at hv
     repeat' first | refine ST ?_ | intro _ | apply And.intro
     all_goals first | (exfalso; omega) | exact hv.symm | trace_state
 · have he := eqL_ne (f := (eqL eqPin)) hn
   repeat' first | refine ST ?_ | intro _ | apply And.intro
   all_goals first | exact he.symm | (exfalso; omega) | trace_state
instance keqWheel_c : HC 291 (∀ (W : World) (a b : Wheel) (v u : Value), Rs (sl 166 pinL) W v a.spoke → Rs (sl 166 pinL) W u b.spoke →Sp W [] 291 #[.agg #[v], .agg #[u]] (RV (.bool (eqL (eqL eqPin) a.spoke b.spoke)))) := by
 refine ⟨fun W a b v u h1 h2 => ?_⟩
 have g1 := h1; have g2 := h2
 obtain ⟨a1, c1, rfl, hc1, hr1⟩ := h1; obtain ⟨a2, c2, rfl, hc2, hr2⟩ := h2
 refine gENT (vs := [_, _]) Tryz.func291 ?_
 repeat' first | refine ST ?_ | intro _ | apply And.intro
 all_goals first | (simp_all; done) | trace_state
instance keqCabin_c : HC 196 (∀ (W : World) (cs ds : List Value) (a b : Cabin), CabinR 166 W cs a → CabinR 166 W ds b →Sp W [] 196 #[.agg cs.toArray, .agg ds.toArray] (RV (.bool (eqCabin a b)))) := by
 refine ⟨fun W cs ds a b ⟨a1, c1, a2, c2, e1, h1, h2, h3, h4⟩ ⟨b1, d1, b2, d2, e2, g1, g2, g3, g4⟩ => ?_⟩
 subst e1 e2
 refine gENT (vs := [_, _]) Tryz.func196 ?_
 repeat' first | refine ST ?_ | intro _ | apply And.intro
 all_goals first | (simp_all [eqCabin]; done) | trace_state
instance keqCabinS_c : HC 95 (∀ (W : World) (x y : List Cabin) (v u : Value), Rs (cabinLx 159 199 166) W v x → Rs (cabinLx 159 199 166) W u y →Sp W [] 95 #[v, u] (RV (.bool (eqL eqCabin x y)))) := by
 refine ⟨fun W x y v u ⟨a, c, e, hc, hr⟩ ⟨a2, c2, e2, hc2, hr2⟩ => ?_⟩
 subst e e2; have hl := hr.len; have hl2 := hr2.len
 refine gENT (vs := [_, _]) Tryz.func95 ?_
 by_cases hn : x.length = y.length
 · repeat' first | refine ST ?_ | intro _ | apply And.intro
   all_goals first | (exfalso; omega) | skip
   refine gFOR 5 x.length (fun k => eqL eqCabin x y = eqL eqCabin (x.drop k) (y.drop k)) rfl fun k hk hv => ?_
   by_cases hkl : k < x.length
   · rw [eqL_drop _ hkl (by omega)] at hv
     repeat' first | refine ST ?_ | intro _ | apply And.intro
     all_goals first | (exfalso; omega) | (rw [hv]; simp [*]; done) | (rw [hv]; simp_all; done) | trace_state
   · rw [eqL_end _ (by omega) (by omega)] at hv
     repeat' first | refine ST ?_ | intro _ | apply And.intro
     all_goals first | (exfalso; omega) | exact hv.symm | trace_state
 · have he := eqL_ne (f := eqCabin) hn
   repeat' first | refine ST ?_ | intro _ | apply And.intro
   all_goals first | exact he.symm | (exfalso; omega) | trace_state
instance keqRules_c : HC 93 (∀ (W : World) (cs ds : List Value) (a b : Rules), RulesR W cs a → RulesR W ds b →Sp W [] 93 #[.agg cs.toArray, .agg ds.toArray] (RV (.bool (eqRules a b)))) := by
 refine ⟨fun W cs ds a b ⟨a1, c1, e1, h1, h2⟩ ⟨b1, d1, e2, g1, g2⟩ => ?_⟩
 subst e1 e2
 refine gENT (vs := [_, _]) Tryz.func93 ?_
 repeat' first | refine ST ?_ | intro _ | apply And.intro
 all_goals first | (simp_all [eqRules]; done) | trace_state
instance keqHouse_c : HC 18 (∀ (W : World) (cs : List Value) (h : House) (ds : List Value) (g : House), HouseR 159 199 166 W cs h → HouseR 159 199 166 W ds g →Sp W [] 18 #[.agg cs.toArray, .agg ds.toArray] (RV (.bool (eqHouse h g)))) := by
 refine ⟨fun W cs h ds g hh hg => ?_⟩
 obtain ⟨a1, c1, a2, c2, a3, c3, a4, c4, a5, c5, rfl, h1, h2, h3, h4, h5, h6, h7, h8, h9, h10⟩ := hh
 obtain ⟨b1, d1, b2, d2, b3, d3, b4, d4, b5, d5, rfl, g1, g2, g3, g4, g5, g6, g7, g8, g9, g10⟩ := hg
 refine gENT (vs := [_, _]) Tryz.func18 ?_
 repeat' first | refine ST ?_ | intro _ | apply And.intro
 all_goals first | (simp_all [eqHouse]; done) | trace_state
end SX
end Go.Proofs.YtejojcoaohlfbaaGreat
