/- Texts of this claim, put together by program. -/
import Derived.Test.YtejojcoaohlfbaaGreatAE
import Derived.Test.YtejojcoaohlfbaaGreatSx9
namespace Go.Proofs.YtejojcoaohlfbaaGreat
namespace SX
open Go Go.RowKit
set_option linter.unusedVariables false
set_option linter.unusedSimpArgs false
set_option maxRecDepth 10000
set_option maxHeartbeats 1000000
attribute [local irreducible] CD DN OPL AT QL QT CND RETG BKP HL HT HO slA slHo slP ptC pull pulls
instance iInts_c : HC 188 (∀ (W : World) (list : List Int) (v : Value), Rs intL W v list → list.length ≤ 1048576 →Sp W [] 188 #[v] (RO 3 intL list)) := by
 refine ⟨fun W list v ⟨a, c, e, hc, hr⟩ hb => ?_⟩
 subst e
 refine gENT (vs := [_]) Tryz.func188 ?_
 repeat' first | refine ST ?_ | intro _ | apply And.intro
 all_goals rfl
instance iEntries_c : HC 287 (∀ (W : World) (list : List Entry) (v : Value), Rs entryL W v list → list.length ≤ 1048576 →Sp W [] 287 #[v] (RO 159 entryL list)) := by
 refine ⟨fun W list v ⟨a, c, e, hc, hr⟩ hb => ?_⟩
 subst e
 refine gENT (vs := [_]) Tryz.func287 ?_
 repeat' first | refine ST ?_ | intro _ | apply And.intro
 all_goals rfl
instance iRules_c : HC 187 (∀ (W : World) (cs : List Value) (r : Rules), RulesR W cs r → r.seats.length ≤ 1048576 →Sp W [] 187 #[.agg cs.toArray] (RRu 3 r)) := by
 refine ⟨fun W cs r ⟨a, c, e, hc, hr⟩ hb => ?_⟩
 subst e
 refine gENT (vs := [_]) Tryz.func187 ?_
 repeat' first | refine ST ?_ | intro _ | apply And.intro
 all_goals rfl
instance iDue_c : HC 192 (∀ (W : World) (p : Party) (now : Int),Sp W [] 192 #[.agg (partyE p).toArray, vi now] (RV (.bool (p.state == 2 && decide (p.until' ≤ now))))) := by
 refine ⟨fun W p now => gENT (vs := [_, _]) Tryz.func192 ?_⟩
 repeat' first | refine ST ?_ | intro _ | apply And.intro
 all_goals grind
instance iResting_c : HC 173 (∀ (W : World) (p : Party) (now : Int),Sp W [] 173 #[.agg (partyE p).toArray, vi now] (RV (.bool (restingB p now)))) := by
 refine ⟨fun W p now => gENT (vs := [_, _]) Tryz.func173 ?_⟩
 repeat' first | refine ST ?_ | intro _ | apply And.intro
 all_goals grind [restingB]
instance iWheel_c : HC 258 (∀ (W : World) (w : Wheel) (v : Value), Rs (sl 166 pinL) W v w.spoke → w.spoke.flatten.length ≤ 1048576 → w.spoke.length ≤ 1048576 →Sp W [] 258 #[.agg #[v]] (RWh 199 166 w)) := by
 refine ⟨fun W w v hv0 hb hn => ?_⟩
 obtain ⟨a, c, rfl, hc, hr⟩ := hv0; have hl := hr.len
 refine gENT (vs := [_]) Tryz.func258 ?_
 repeat' first | refine ST ?_ | intro _ | apply And.intro
 refine gNILN 199 (sl 166 pinL) ?_
 refine gFORG 9 w.spoke.length (fun _ => []) [(2, fun q : HH × List (List Pin) => [.slice q.1.1 q.2.length q.1.2])] (fun q => [slA 199 (sl 166 pinL) (.slice q.1.1 q.2.length q.1.2) q.2]) (fun k q => q.2 = w.spoke.take k) ((none, 0), []) (h0 := rfl) (body := fun k q hk hv => ?_)
 have hql : q.2.length = k := by rw [hv, List.length_take]; omega
 by_cases hkl : k < w.spoke.length
 · have hf := flat_mem (List.getElem?_eq_getElem hkl)
   repeat' first | refine ST ?_ | intro _ | apply And.intro
   all_goals first | (exfalso; omega) | refine gGBACK ((_, _), _) (by omega) (h := ?_)
   all_goals (rw [hv, ← List.take_append_getElem hkl]; rfl)
 · repeat' first | refine ST ?_ | intro _ | apply And.intro
   all_goals first | (exfalso; omega) | (rw [hv, List.take_of_length_le (by omega)])
instance iCabin_c : HC 189 (∀ (W : World) (cs : List Value) (x : Cabin), CabinR 166 W cs x → CabinSz x →Sp W [] 189 #[.agg cs.toArray] (RCa 159 199 166 x)) := by
 refine ⟨fun W cs x hx hs => ?_⟩
 obtain ⟨hs1, hs2, hs3⟩ := hs; obtain ⟨a1, c1, a2, c2, rfl, h1, h2, h3, h4⟩ := hx
 refine gENT (vs := [_]) Tryz.func189 ?_
 repeat' first | refine ST ?_ | intro _ | apply And.intro
 all_goals rfl
instance iIndex_c : HC 164 (∀ (W : World) (n size : Int),Sp W [] 164 #[vi n, vi size] (RV (.bool (inB n 0 (wr (size - 1)))))) := by
 refine ⟨fun W n size => gENT (vs := [_, _]) Tryz.func164 ?_⟩
 repeat' first | refine ST ?_ | intro _ | apply And.intro
 all_goals rfl
instance iRulesOk_c : HC 163 (∀ (W : World) (cs : List Value) (r : Rules), RulesR W cs r →Sp W [] 163 #[.agg cs.toArray] (RV (.bool (rulesOk r)))) := by
 refine ⟨fun W cs r ⟨a, c, e, hc, hr⟩ => ?_⟩
 subst e; have hl := hr.len
 refine gENT (vs := [_]) Tryz.func163 ?_
 repeat' first | refine ST ?_ | intro _ | apply And.intro
 all_goals try (simp [rulesOk, *]; done)
 refine gFOR 13 r.seats.length (fun k => allSeats r.seats = allSeats (r.seats.drop k)) rfl fun k hk hv => ?_
 repeat' first | refine ST ?_ | intro _ | apply And.intro
 all_goals grind [rulesOk, allSeats, List.drop_eq_getElem_cons]
instance iPartyOk_c : HC 185 (∀ (W : World) (cs : List Value) (r : Rules) (p : Party) (now : Int), RulesR W cs r →Sp W [] 185 #[.agg cs.toArray, .agg (partyE p).toArray, vi now] (RV (.bool (partyOk r p now)))) := by
 refine ⟨fun W cs r p now hr => gENT (vs := [_, _, _]) Tryz.func185 ?_⟩
 obtain ⟨a, c, rfl, hc, h⟩ := id hr
 repeat' first | refine ST ?_ | intro _ | apply And.intro
 all_goals grind [partyOk]
instance iLedgerOk_c : HC 36 (∀ (W : World) (l : Ledger),Sp W [] 36 #[.agg (ledgerE l).toArray] (RV (.bool (ledgerOk l)))) := by
 refine ⟨fun W l => gENT (vs := [_]) Tryz.func36 ?_⟩
 repeat' first | refine ST ?_ | intro _ | apply And.intro
 all_goals grind [ledgerOk]
instance iCountIn_c : HC 172 (∀ (W : World) (list : List Party) (v : Value) (cabin : Int), Rs partyL W v list →Sp W [] 172 #[v, vi cabin] (RV (vi (countGo list cabin 0)))) := by
 refine ⟨fun W list v cabin ⟨a, c, e, hc, hr⟩ => ?_⟩
 subst e; have hl := hr.len
 refine gENT (vs := [_, _]) Tryz.func172 ?_
 repeat' first | refine ST ?_ | intro _ | apply And.intro
 refine gFORA 10 list.length (fun n => [(5, I n)]) (fun k n => countGo list cabin 0 = countGo (list.drop k) cabin n) 0 rfl fun k n hk hv => ?_
 repeat' first | refine ST ?_ | intro _ | apply And.intro
 all_goals grind [countGo, List.drop_eq_getElem_cons]
instance iHeldIn_c : HC 285 (∀ (W : World) (list : List Party) (v : Value) (cabin : Int), Rs partyL W v list →Sp W [] 285 #[v, vi cabin] (RV (vi (heldGo list cabin 0)))) := by
 refine ⟨fun W list v cabin ⟨a, c, e, hc, hr⟩ => ?_⟩
 subst e; have hl := hr.len
 refine gENT (vs := [_, _]) Tryz.func285 ?_
 repeat' first | refine ST ?_ | intro _ | apply And.intro
 refine gFORA 10 list.length (fun n => [(5, I n)]) (fun k n => heldGo list cabin 0 = heldGo (list.drop k) cabin n) 0 rfl fun k n hk hv => ?_
 repeat' first | refine ST ?_ | intro _ | apply And.intro
 all_goals grind [heldGo, List.drop_eq_getElem_cons]
instance iTiedIn_c : HC 286 (∀ (W : World) (list : List Party) (v : Value) (cabin : Int), Rs partyL W v list →Sp W [] 286 #[v, vi cabin] (RV (vi (tiedGo list cabin 0)))) := by
 refine ⟨fun W list v cabin ⟨a, c, e, hc, hr⟩ => ?_⟩
 subst e; have hl := hr.len
 refine gENT (vs := [_, _]) Tryz.func286 ?_
 repeat' first | refine ST ?_ | intro _ | apply And.intro
 refine gFORA 10 list.length (fun n => [(5, I n)]) (fun k n => tiedGo list cabin 0 = tiedGo (list.drop k) cabin n) 0 rfl fun k n hk hv => ?_
 repeat' first | refine ST ?_ | intro _ | apply And.intro
 all_goals grind [tiedGo, List.drop_eq_getElem_cons]
instance isNaN_c : HC 374 (∀ (W : World) (x : Int),Sp W [] 374 #[vi x] (RV (.bool false))) := by
 refine ⟨fun W x => gENT (vs := [_]) Tryz.func374 ?_⟩
 repeat' first | refine ST ?_ | intro _ | apply And.intro
 all_goals simp
instance cmpI_c : HC 341 (∀ (W : World) (x y : Int),Sp W [] 341 #[vi x, vi y] (RV (vi (cmpI x y)))) := by
 refine ⟨fun W x y => gENT (vs := [_, _]) Tryz.func341 ?_⟩
 repeat' first | refine ST ?_ | intro _ | apply And.intro
 all_goals first | (simp [cmpI, *]; done) | (simp only [cmpI]; split <;> first | omega | rfl | (split <;> omega))
instance cmpEntry_c : HC 267 (∀ (W : World) (a b : Entry),Sp W [] 267 #[.agg (entryE a).toArray, .agg (entryE b).toArray] (RV (vi (cmpEntry a b)))) := by
 refine ⟨fun W a b => gENT (vs := [_, _]) Tryz.func267 ?_⟩
 repeat' first | refine ST ?_ | intro _ | apply And.intro
 all_goals simp [cmpEntry, *]
instance cmpPin_c : HC 301 (∀ (W : World) (a b : Pin),Sp W [] 301 #[.agg (pinE a).toArray, .agg (pinE b).toArray] (RV (vi (cmpPin a b)))) := by
 refine ⟨fun W a b => gENT (vs := [_, _]) Tryz.func301 ?_⟩
 repeat' first | refine ST ?_ | intro _ | apply And.intro
 all_goals simp [cmpPin, *]
instance eqRow_c : HC 281 (∀ (W : World) (x y : List Entry) (v u : Value), Rs entryL W v x → Rs entryL W u y →Sp W [] 281 #[v, u] (RV (.bool (sameRow x y)))) := by
 refine ⟨fun W x y v u ⟨a, c, e, hc, hr⟩ ⟨a2, c2, e2, hc2, hr2⟩ => ?_⟩
 subst e e2; have hl := hr.len; have hl2 := hr2.len
 refine gENT (vs := [_, _]) Tryz.func281 ?_
 repeat' first | refine ST ?_ | intro _ | apply And.intro
 all_goals try (exact (sameRow_ne (by omega)).symm)
 refine gFOR 13 x.length (fun k => sameRow x y = sameRow (x.drop k) (y.drop k)) rfl fun k hk hv => ?_
 repeat' first | refine ST ?_ | intro _ | apply And.intro
 all_goals grind [sameRow, List.drop_eq_getElem_cons]
instance eqPins_c : HC 282 (∀ (W : World) (x y : List Pin) (v u : Value), Rs pinL W v x → Rs pinL W u y →Sp W [] 282 #[v, u] (RV (.bool (samePins x y)))) := by
 refine ⟨fun W x y v u ⟨a, c, e, hc, hr⟩ ⟨a2, c2, e2, hc2, hr2⟩ => ?_⟩
 subst e e2; have hl := hr.len; have hl2 := hr2.len
 refine gENT (vs := [_, _]) Tryz.func282 ?_
 repeat' first | refine ST ?_ | intro _ | apply And.intro
 all_goals try (exact (samePins_ne (by omega)).symm)
 refine gFOR 13 x.length (fun k => samePins x y = samePins (x.drop k) (y.drop k)) rfl fun k hk hv => ?_
 repeat' first | refine ST ?_ | intro _ | apply And.intro
 all_goals grind [samePins, List.drop_eq_getElem_cons]
instance idxPin_c : HC 261 (∀ (W : World) (list : List Pin) (v : Value) (p : Pin), Rs pinL W v list →Sp W [] 261 #[v, .agg (pinE p).toArray] (RV (vi (pinAt list p)))) := by
 refine ⟨fun W list v p ⟨a, c, e, hc, hr⟩ => ?_⟩
 subst e; have hl := hr.len
 refine gENT (vs := [_, _]) Tryz.func261 ?_
 repeat' first | refine ST ?_ | intro _ | apply And.intro
 refine gFOR 8 list.length (fun k => pinAt list p = idxF (fun x : Pin => x.at' == p.at' && x.id == p.id) (list.drop k) k) rfl fun k hk hv => ?_
 repeat' first | refine ST ?_ | intro _ | apply And.intro
 all_goals grind [idxF, List.drop_eq_getElem_cons]
instance idxInt_c : HC 194 (∀ (W : World) (list : List Int) (v : Value) (x : Int), Rs intL W v list →Sp W [] 194 #[v, vi x] (RV (vi (idxF (fun e : Int => e == x) list 0)))) := by
 refine ⟨fun W list v x ⟨a, c, e, hc, hr⟩ => ?_⟩
 subst e; have hl := hr.len
 refine gENT (vs := [_, _]) Tryz.func194 ?_
 repeat' first | refine ST ?_ | intro _ | apply And.intro
 refine gFOR 8 list.length (fun k => idxF (fun e : Int => e == x) list 0 = idxF (fun e : Int => e == x) (list.drop k) k) rfl fun k hk hv => ?_
 repeat' first | refine ST ?_ | intro _ | apply And.intro
 all_goals grind [idxF, List.drop_eq_getElem_cons]
instance iLevel_c : HC 193 (∀ (W : World) (cs : List Value) (r : Rules) (tier waited : Int), RulesR W cs r →Sp W [] 193 #[.agg cs.toArray, vi tier, vi waited] (RV (vi (levelI r tier waited)))) := by
 refine ⟨fun W cs r t u hr => gENT (vs := [_, _, _]) Tryz.func193 ?_⟩
 obtain ⟨a, c, rfl, hc, h⟩ := id hr
 by_cases h0 : rulesOk r = true
 · have hper := (rr_of h0).period.1
   repeat' first | refine ST ?_ | intro _ | apply And.intro
   all_goals first | (simp_all [levelI]; done) | (simp_all [levelI, levelAt_max]; done)
 · repeat' first | refine ST ?_ | intro _ | apply And.intro
   all_goals first | exact absurd ‹rulesOk r = true› h0 | (simp_all [levelI]; done)
instance iLevelOf_c : HC 91 (∀ (W : World) (cs : List Value) (r : Rules) (p : Party) (now : Int), RulesR W cs r →Sp W [] 91 #[.agg cs.toArray, .agg (partyE p).toArray, vi now] (RV (vi (levelOf r p now)))) := by
 refine ⟨fun W cs r p now hr => gENT (vs := [_, _, _]) Tryz.func91 ?_⟩
 obtain ⟨a, c, rfl, hc, h⟩ := id hr
 repeat' first | refine ST ?_ | intro _ | apply And.intro
 all_goals first | (simp_all [levelOf]; done) | (rw [levelOf, if_pos ‹partyOk r p now = true›]; exact levelI_of ‹_›)
theorem entryOk_eq (r : Rules) (p : Party) (now : Int) : entryOk r p now = (partyOk r p now && p.state == 1) := by
 have h1 := levelAt_nn r p.tier (wr (now - p.since))
 unfold entryOk levelOf
 by_cases h : partyOk r p now = true
 · rw [if_pos h, h, decide_eq_false (by omega)]; rfl
 · rw [if_neg h, decide_eq_true (by omega), Bool.eq_false_iff.2 h]; rfl
instance iEntryOf_c : HC 231 (∀ (W : World) (cs : List Value) (r : Rules) (p : Party) (now : Int), RulesR W cs r →Sp W [] 231 #[.agg cs.toArray, .agg (partyE p).toArray, vi now] (RV (.tuple #[.agg (entryE (entryOf r p now)).toArray, .bool (entryOk r p now)]))) := by
 refine ⟨fun W cs r p now hr => gENT (vs := [_, _, _]) Tryz.func231 ?_⟩
 obtain ⟨a, c, rfl, hc, h⟩ := id hr
 repeat' first | refine ST ?_ | intro _ | apply And.intro
 all_goals (have e := entryOk_eq r p now; simp_all [entryOf, entryE])
theorem asked9 {r : Rules} {p : Party} {now : Int} (h : partyOk r p now = true) : (wr (p.asked + 1) = r.tries ↔ wr (p.asked + 1) ≥ r.tries) := by
 obtain ⟨h1, h2, h3⟩ := partyOk_iff.1 h
 have ht := (rr_of h1).tries; have ha := h3.asked
 rw [wr_of (by omega) (by omega)]; omega
instance iFailed_c : HC 265 (∀ (W : World) (cs : List Value) (r : Rules) (p : Party) (now : Int), RulesR W cs r →Sp W [] 265 #[.agg cs.toArray, .agg (partyE p).toArray, vi now] (RV (.tuple #[.agg (partyE (failedX r p now)).toArray, .bool (failedB r p now)]))) := by
 refine ⟨fun W cs r p now hr => gENT (vs := [_, _, _]) Tryz.func265 ?_⟩
 obtain ⟨a, c, rfl, hc, h⟩ := id hr
 repeat' first | refine ST ?_ | intro _ | apply And.intro
 all_goals first | (simp_all [failedX, failedP, failedB, partyZ, partyE]; done) | (have e := asked9 ‹partyOk r p now = true›; simp_all [failedX, failedP, failedB, partyZ, partyE]; done)
end SX
end Go.Proofs.YtejojcoaohlfbaaGreat
