/- Texts of this claim, put together by program. -/
import Derived.Test.YthnbaikmbgaddaaGreatSuTab
import Derived.Test.YthnbaikmbgaddaaGreatMdls
import Derived.Test.YthnbaikmbgaddaaGreatMdlm
/- Rules, parties, entries. -/
namespace Go.Proofs.YthnbaikmbgaddaaGreat
namespace SX
open Go Go.RowKit
set_option linter.unusedVariables false
set_option linter.unusedSimpArgs false
set_option maxRecDepth 10000
set_option maxHeartbeats 1000000
attribute [local irreducible] CD DN OPL AT QL QT CND RETG BKP HL HT HO slA slHo slP ptC pull pulls
abbrev HsR := HouseR 142 155 167
instance l1Max_c : HC 207 (∀ (W : World) (a b : Int),Sp W [] 207 #[vi a, vi b] (RV (vi (if a > b then a else b)))) := by
 refine ⟨fun W a b => gENT (vs := [_, _]) Tryz.func207 ?_⟩
 repeat' first | refine ST ?_ | intro _ | apply And.intro
 all_goals simp [*]
instance l1In_c : HC 77 (∀ (W : World) (n lo hi : Int),Sp W [] 77 #[vi n, vi lo, vi hi] (RV (.bool (inB n lo hi)))) := by
 refine ⟨fun W n lo hi => gENT (vs := [_, _, _]) Tryz.func77 ?_⟩
 repeat' first | refine ST ?_ | intro _ | apply And.intro
 all_goals simp [inB, *]
instance iWithin_c : HC 83 (∀ (W : World) (n lo hi : Int),Sp W [] 83 #[vi n, vi lo, vi hi] (RV (.bool (inB n lo hi)))) := by
 refine ⟨fun W n lo hi => gENT (vs := [_, _, _]) Tryz.func83 ?_⟩
 repeat' first | refine ST ?_ | intro _ | apply And.intro
 all_goals simp [inB, *]
instance sRulesOk_c : HC 68 (∀ (W : World) (cs : List Value) (r : Rules), RulesR W cs r →Sp W [] 68 #[.agg cs.toArray] (RV (.bool (rulesOk r)))) := by
 refine ⟨fun W cs r ⟨a, c, e, hc, hr⟩ => ?_⟩
 subst e; have hl := hr.len
 refine gENT (vs := [_]) Tryz.func68 ?_
 repeat' first | refine ST ?_ | intro _ | apply And.intro
 all_goals try (simp [rulesOk, *]; done)
 refine gFOR 3 r.seats.length (fun k => allSeats r.seats = allSeats (r.seats.drop k)) rfl fun k hk hv => ?_
 repeat' first | refine ST ?_ | intro _ | apply And.intro
 all_goals grind [rulesOk, allSeats, List.drop_eq_getElem_cons]
end SX
end Go.Proofs.YthnbaikmbgaddaaGreat
/- Parties, entries, ledgers. -/
namespace Go.Proofs.YthnbaikmbgaddaaGreat
namespace SX
open Go Go.RowKit
set_option linter.unusedVariables false
set_option linter.unusedSimpArgs false
set_option maxRecDepth 10000
set_option maxHeartbeats 1000000
attribute [local irreducible] CD DN OPL AT QL QT CND RETG BKP HL HT HO slA slHo slP ptC pull pulls
instance sPartyOk_c : HC 166 (∀ (W : World) (cs : List Value) (r : Rules) (p : Party) (now : Int), RulesR W cs r →Sp W [] 166 #[.agg cs.toArray, .agg (partyE p).toArray, vi now] (RV (.bool (partyOk r p now)))) := by
 refine ⟨fun W cs r p now hr => gENT (vs := [_, _, _]) Tryz.func166 ?_⟩
 obtain ⟨a, c, rfl, hc, h⟩ := id hr
 repeat' first | refine ST ?_ | intro _ | apply And.intro
 all_goals grind [partyOk]
instance sEntryLess_c : HC 324 (∀ (W : World) (a b : Entry),Sp W [] 324 #[.agg (entryE a).toArray, .agg (entryE b).toArray] (RV (.bool (entryLess a b)))) := by
 refine ⟨fun W a b => gENT (vs := [_, _]) Tryz.func324 ?_⟩
 repeat' first | refine ST ?_ | intro _ | apply And.intro
 all_goals grind [entryLess]
instance sPinLess_c : HC 326 (∀ (W : World) (a b : Pin),Sp W [] 326 #[.agg (pinE a).toArray, .agg (pinE b).toArray] (RV (.bool (pinLess a b)))) := by
 refine ⟨fun W a b => gENT (vs := [_, _]) Tryz.func326 ?_⟩
 repeat' first | refine ST ?_ | intro _ | apply And.intro
 all_goals grind [pinLess]
instance sLedgerOk_c : HC 231 (∀ (W : World) (l : Ledger),Sp W [] 231 #[.agg (ledgerE l).toArray] (RV (.bool (ledgerOk l)))) := by
 refine ⟨fun W l => gENT (vs := [_]) Tryz.func231 ?_⟩
 repeat' first | refine ST ?_ | intro _ | apply And.intro
 all_goals grind [ledgerOk]
instance sl5Level_c : HC 352 (∀ (W : World) (cs : List Value) (r : Rules) (tier waited : Int), RulesR W cs r → 1 ≤ r.period →Sp W [] 352 #[.agg cs.toArray, vi tier, vi waited] (RV (vi (levelAt r tier waited)))) := by
 refine ⟨fun W cs r t u hr hp => gENT (vs := [_, _, _]) Tryz.func352 ?_⟩
 obtain ⟨a, c, rfl, hc, h⟩ := id hr
 repeat' first | refine ST ?_ | intro _ | apply And.intro
 all_goals grind [levelAt]
instance sLevelOf_c : HC 303 (∀ (W : World) (cs : List Value) (r : Rules) (p : Party) (now : Int), RulesR W cs r →Sp W [] 303 #[.agg cs.toArray, .agg (partyE p).toArray, vi now] (RV (vi (levelOf r p now)))) := by
 refine ⟨fun W cs r p now hr => gENT (vs := [_, _, _]) Tryz.func303 ?_⟩
 obtain ⟨a, c, rfl, hc, h⟩ := id hr
 have h8 := @per_pos r p now
 repeat' first | refine ST ?_ | intro _ | apply And.intro
 all_goals grind [levelOf]
instance sEntryOf_c : HC 242 (∀ (W : World) (cs : List Value) (r : Rules) (p : Party) (now : Int), RulesR W cs r →Sp W [] 242 #[.agg cs.toArray, .agg (partyE p).toArray, vi now] (RV (.tuple #[.agg (entryE (entryOf r p now)).toArray, .bool (entryOk r p now)]))) := by
 refine ⟨fun W cs r p now hr => gENT (vs := [_, _, _]) Tryz.func242 ?_⟩
 obtain ⟨a, c, rfl, hc, h⟩ := id hr
 repeat' first | refine ST ?_ | intro _ | apply And.intro
 all_goals grind [entryOf, entryOk, entryE]
end SX
end Go.Proofs.YthnbaikmbgaddaaGreat
/- Counts over parties; rows. -/
namespace Go.Proofs.YthnbaikmbgaddaaGreat
namespace SX
open Go Go.RowKit
set_option linter.unusedVariables false
set_option linter.unusedSimpArgs false
set_option maxRecDepth 10000
set_option maxHeartbeats 1000000
attribute [local irreducible] CD DN OPL AT QL QT CND RETG BKP HL HT HO slA slHo slP ptC pull pulls
instance sCountIn_c : HC 81 (∀ (W : World) (list : List Party) (v : Value) (cabin : Int), Rs partyL W v list →Sp W [] 81 #[v, vi cabin] (RV (vi (countGo list cabin 0)))) := by
 refine ⟨fun W list v cabin ⟨a, c, e, hc, hr⟩ => ?_⟩
 subst e; have hl := hr.len
 refine gENT (vs := [_, _]) Tryz.func81 ?_
 repeat' first | refine ST ?_ | intro _ | apply And.intro
 refine gFORA 6 list.length (fun n => [(5, I n)]) (fun k n => countGo list cabin 0 = countGo (list.drop k) cabin n) 0 rfl fun k n hk hv => ?_
 repeat' first | refine ST ?_ | intro _ | apply And.intro
 all_goals grind [countGo, List.drop_eq_getElem_cons]
instance sHeldIn_c : HC 173 (∀ (W : World) (list : List Party) (v : Value) (cabin : Int), Rs partyL W v list →Sp W [] 173 #[v, vi cabin] (RV (vi (heldGo list cabin 0)))) := by
 refine ⟨fun W list v cabin ⟨a, c, e, hc, hr⟩ => ?_⟩
 subst e; have hl := hr.len
 refine gENT (vs := [_, _]) Tryz.func173 ?_
 repeat' first | refine ST ?_ | intro _ | apply And.intro
 refine gFORA 6 list.length (fun n => [(5, I n)]) (fun k n => heldGo list cabin 0 = heldGo (list.drop k) cabin n) 0 rfl fun k n hk hv => ?_
 repeat' first | refine ST ?_ | intro _ | apply And.intro
 all_goals grind [heldGo, List.drop_eq_getElem_cons]
instance sTiedIn_c : HC 174 (∀ (W : World) (list : List Party) (v : Value) (cabin : Int), Rs partyL W v list →Sp W [] 174 #[v, vi cabin] (RV (vi (tiedGo list cabin 0)))) := by
 refine ⟨fun W list v cabin ⟨a, c, e, hc, hr⟩ => ?_⟩
 subst e; have hl := hr.len
 refine gENT (vs := [_, _]) Tryz.func174 ?_
 repeat' first | refine ST ?_ | intro _ | apply And.intro
 refine gFORA 6 list.length (fun n => [(5, I n)]) (fun k n => tiedGo list cabin 0 = tiedGo (list.drop k) cabin n) 0 rfl fun k n hk hv => ?_
 repeat' first | refine ST ?_ | intro _ | apply And.intro
 all_goals grind [tiedGo, List.drop_eq_getElem_cons]
instance sQueueAt_c : HC 325 (∀ (W : World) (list : List Entry) (v : Value) (id : Int), Rs entryL W v list →Sp W [] 325 #[v, vi id] (RV (vi (queueAt list id 0)))) := by
 refine ⟨fun W list v id ⟨a, c, e, hc, hr⟩ => ?_⟩
 subst e; have hl := hr.len
 refine gENT (vs := [_, _]) Tryz.func325 ?_
 repeat' first | refine ST ?_ | intro _ | apply And.intro
 refine gFOR 5 list.length (fun k => queueAt list id 0 = queueAt (list.drop k) id k) rfl fun k hk hv => ?_
 repeat' first | refine ST ?_ | intro _ | apply And.intro
 all_goals grind [queueAt, List.drop_eq_getElem_cons]
instance sSameRow_c : HC 168 (∀ (W : World) (x y : List Entry) (v u : Value), Rs entryL W v x → Rs entryL W u y →Sp W [] 168 #[v, u] (RV (.bool (sameRow x y)))) := by
 refine ⟨fun W x y v u ⟨a, c, e, hc, hr⟩ ⟨a2, c2, e2, hc2, hr2⟩ => ?_⟩
 subst e e2; have hl := hr.len; have hl2 := hr2.len
 refine gENT (vs := [_, _]) Tryz.func168 ?_
 repeat' first | refine ST ?_ | intro _ | apply And.intro
 all_goals try (exact (sameRow_ne (by omega)).symm)
 refine gFOR 5 x.length (fun k => sameRow x y = sameRow (x.drop k) (y.drop k)) rfl fun k hk hv => ?_
 repeat' first | refine ST ?_ | intro _ | apply And.intro
 all_goals grind [sameRow, List.drop_eq_getElem_cons]
instance sSamePins_c : HC 170 (∀ (W : World) (x y : List Pin) (v u : Value), Rs pinL W v x → Rs pinL W u y →Sp W [] 170 #[v, u] (RV (.bool (samePins x y)))) := by
 refine ⟨fun W x y v u ⟨a, c, e, hc, hr⟩ ⟨a2, c2, e2, hc2, hr2⟩ => ?_⟩
 subst e e2; have hl := hr.len; have hl2 := hr2.len
 refine gENT (vs := [_, _]) Tryz.func170 ?_
 repeat' first | refine ST ?_ | intro _ | apply And.intro
 all_goals try (exact (samePins_ne (by omega)).symm)
 refine gFOR 5 x.length (fun k => samePins x y = samePins (x.drop k) (y.drop k)) rfl fun k hk hv => ?_
 repeat' first | refine ST ?_ | intro _ | apply And.intro
 all_goals grind [samePins, List.drop_eq_getElem_cons]
end SX
end Go.Proofs.YthnbaikmbgaddaaGreat
/- Rows that are made. -/
namespace Go.Proofs.YthnbaikmbgaddaaGreat
namespace SX
open Go Go.RowKit
set_option linter.unusedVariables false
set_option linter.unusedSimpArgs false
set_option maxRecDepth 10000
set_option maxHeartbeats 1000000
attribute [local irreducible] CD DN OPL AT QL QT CND RETG BKP HL HT HO slA slHo slP ptC pull pulls
theorem pIns_go {list : List Pin} {p : Pin} {k : Nat} (hv : pIns list p = list.take k ++ pIns (list.drop k) p) (h : k < list.length) (hl : pinLess list[k] p = true) : pIns list p = list.take (k + 1) ++ pIns (list.drop (k + 1)) p := by
  grind [pIns, List.drop_eq_getElem_cons, List.take_append_getElem]
theorem pIns_at {list : List Pin} {p : Pin} {k : Nat} (hv : pIns list p = list.take k ++ pIns (list.drop k) p) (h : ∀ h : k < list.length, pinLess list[k] p = false) : list.take k ++ [p] ++ list.drop k = pIns list p := by
  by_cases h1 : k < list.length
  · have h2 := h h1
    grind [pIns, List.drop_eq_getElem_cons]
  · rw [hv, List.drop_eq_nil_of_le (by omega)]; simp [pIns]
theorem qIns_go {list : List Entry} {p : Entry} {k : Nat} (hv : qIns list p = list.take k ++ qIns (list.drop k) p) (h : k < list.length) (hl : entryLess list[k] p = true) : qIns list p = list.take (k + 1) ++ qIns (list.drop (k + 1)) p := by
  grind [qIns, List.drop_eq_getElem_cons, List.take_append_getElem]
theorem qIns_at {list : List Entry} {p : Entry} {k : Nat} (hv : qIns list p = list.take k ++ qIns (list.drop k) p) (h : ∀ h : k < list.length, entryLess list[k] p = false) : list.take k ++ [p] ++ list.drop k = qIns list p := by
  by_cases h1 : k < list.length
  · have h2 := h h1
    grind [qIns, List.drop_eq_getElem_cons]
  · rw [hv, List.drop_eq_nil_of_le (by omega)]; simp [qIns]
instance sl7Copy_c : HC 246 (∀ (W : World) (list : List Entry) (v : Value), Rs entryL W v list → list.length ≤ 1048576 →Sp W [] 246 #[v] (RO 142 entryL list)) := by
 refine ⟨fun W list v ⟨a, c, e, hc, hr⟩ hb => ?_⟩
 subst e
 refine gENT (vs := [_]) Tryz.func246 ?_
 repeat' first | refine ST ?_ | intro _ | apply And.intro
 all_goals simp
instance sl9Put_c : HC 245 (∀ (W : World) (list : List Pin) (v : Value) (p : Pin), Rs pinL W v list → list.length ≤ 1048576 →Sp W [] 245 #[v, .agg (pinE p).toArray] (RO 167 pinL (pIns list p))) := by
 refine ⟨fun W list v p ⟨a, c, e, hc, hr⟩ hb => ?_⟩
 subst e
 refine gENT (vs := [_, _]) Tryz.func245 ?_
 repeat' first | refine ST ?_ | intro _ | apply And.intro
 refine gFOR 5 list.length (fun k => pIns list p = list.take k ++ pIns (list.drop k) p) rfl fun k hk hv => ?_
 repeat' first | refine ST ?_ | intro _ | apply And.intro
 all_goals first | exact pIns_go hv ‹_› ‹_› | exact pIns_at hv (fun h => by first | assumption | omega)
instance sl7Put_c : HC 243 (∀ (W : World) (list : List Entry) (v : Value) (p : Entry), Rs entryL W v list → list.length ≤ 1048576 →Sp W [] 243 #[v, .agg (entryE p).toArray] (RO 142 entryL (qIns list p))) := by
 refine ⟨fun W list v p ⟨a, c, e, hc, hr⟩ hb => ?_⟩
 subst e
 refine gENT (vs := [_, _]) Tryz.func243 ?_
 repeat' first | refine ST ?_ | intro _ | apply And.intro
 refine gFOR 5 list.length (fun k => qIns list p = list.take k ++ qIns (list.drop k) p) rfl fun k hk hv => ?_
 repeat' first | refine ST ?_ | intro _ | apply And.intro
 all_goals first | exact qIns_go hv ‹_› ‹_› | exact qIns_at hv (fun h => by first | assumption | omega)
end SX
end Go.Proofs.YthnbaikmbgaddaaGreat
/- Pins, queues of parties. -/
namespace Go.Proofs.YthnbaikmbgaddaaGreat
namespace SX
open Go Go.RowKit
set_option linter.unusedVariables false
set_option linter.unusedSimpArgs false
set_option maxRecDepth 10000
set_option maxHeartbeats 1000000
attribute [local irreducible] CD DN OPL AT QL QT CND RETG BKP HL HT HO slA slHo slP ptC pull pulls
instance sPinsIn_c : HC 172 (∀ (W : World) (list : List Party) (v : Value) (cabin : Int), Rs partyL W v list → list.length ≤ 1000000 →Sp W [] 172 #[v, vi cabin] (RO 167 pinL (pinsGo list cabin []))) := by
 refine ⟨fun W list v cabin ⟨a, c, e, hc, hr⟩ hb => ?_⟩
 subst e
 refine gENT (vs := [_, _]) Tryz.func172 ?_
 repeat' first | refine ST ?_ | intro _ | apply And.intro
 refine gFORO 6 list.length 5 (fun _ : Unit => []) (fun k _ xs => xs.length ≤ k ∧ pinsGo list cabin [] = pinsGo (list.drop k) cabin xs) () (h0 := ⟨by simp, rfl⟩) (body := fun k _ a c9 xs hk ⟨hl, hv⟩ => ?_)
 repeat' first | refine ST ?_ | intro _ | apply And.intro
 all_goals grind [pinsGo, pIns_len, List.drop_eq_getElem_cons, List.drop_eq_nil_of_le]
theorem qOf_len9 (r : Rules) (cabin now : Int) : ∀ list : List Party, (queueOf r list cabin now).length ≤ list.length
  | [] => by simp [queueOf]
  | p :: ps => by
    have := qOf_len9 r cabin now ps
    rw [queueOf]; split
    · rw [qIns_len, List.length_cons]; omega
    · rw [List.length_cons]; omega
instance sQueueOf_c : HC 169 (∀ (W : World) (cs : List Value) (r : Rules) (list : List Party) (v : Value) (cabin now : Int), RulesR W cs r → Rs partyL W v list → list.length ≤ 1000000 →Sp W [] 169 #[.agg cs.toArray, v, vi cabin, vi now] (RO 142 entryL (queueOf r list cabin now))) := by
 refine ⟨fun W cs r list v cabin now hrr ⟨a, c, e, hc, hr⟩ hb => ?_⟩
 subst e; have hrr' := hrr; obtain ⟨a1, c1, rfl, hc1, hr1⟩ := hrr
 refine gENT (vs := [_, _, _, _]) Tryz.func169 ?_
 repeat' first | refine ST ?_ | intro _ | apply And.intro
 refine gFORDO 10 list.length 9 (by omega) (fun k xs => xs = queueOf r (list.drop k) cabin now) (h0 := by simp [queueOf]) (body0 := fun a c9 xs hv => ?_) (bodyS := fun k a c9 xs hk hv => ?_)
 · repeat' first | refine ST ?_ | intro _ | apply And.intro
   all_goals first | (exfalso; omega) | simpa using hv
 · have hl := qOf_len9 r cabin now (list.drop (k + 1)); rw [← hv, List.length_drop] at hl
   repeat' first | refine ST ?_ | intro _ | apply And.intro
   all_goals first | (exfalso; omega) | (rw [hv, List.drop_eq_getElem_cons (show k < list.length by omega)]; simp [queueOf, *]; done)
end SX
end Go.Proofs.YthnbaikmbgaddaaGreat
/- Rows that are right. -/
namespace Go.Proofs.YthnbaikmbgaddaaGreat
namespace SX
open Go Go.RowKit
set_option linter.unusedVariables false
set_option linter.unusedSimpArgs false
set_option maxRecDepth 10000
set_option maxHeartbeats 1000000
attribute [local irreducible] CD DN OPL AT QL QT CND RETG BKP HL HT HO slA slHo slP ptC pull pulls
def eOk (l : List Entry) (k : Nat) (h : k < l.length) : Bool := inB l[k].level 0 4 && inB l[k].turn 1 1000000 && inB l[k].id 1 999 && inB l[k].size 1 6 && (decide (k = 0) || entryLess l[k - 1] l[k]) && queueAt l l[k].id 0 == (k : Int)
def qGo (l : List Entry) (k : Nat) : Bool := if h : k < l.length then eOk l k h && qGo l (k + 1) else true
termination_by l.length - k
theorem qGo_iff (l : List Entry) (k : Nat) : qGo l k = true ↔ ∀ i (h : i < l.length), k ≤ i → eOk l i h = true := by
  induction hn : l.length - k generalizing k with
  | zero => rw [qGo, dif_neg (by omega)]; simp; intro i h hk; omega
  | succ n ih =>
    rw [qGo, dif_pos (by omega), Bool.and_eq_true, ih (k + 1) (by omega)]
    constructor
    · rintro ⟨h1, h2⟩ i h hk
      by_cases he : i = k
      · subst he; exact h1
      · exact h2 i h (by omega)
    · intro h1
      exact ⟨h1 k (by omega) (Nat.le_refl _), fun i h hk => h1 i h (by omega)⟩
theorem eOk_iff (l : List Entry) (k : Nat) (h : k < l.length) : eOk l k h = true ↔ EntryR l[k] ∧ (0 < k → ∀ y, l[k - 1]? = some y → entryLess y l[k] = true) ∧ ∀ (j : Nat) (y : Entry), j < k → l[j]? = some y → y.id ≠ l[k].id := by
  have h2 : (queueAt l l[k].id 0 = (k : Int)) ↔ ∀ (j : Nat) (y : Entry), j < k → l[j]? = some y → y.id ≠ l[k].id := queueAt_at (List.getElem?_eq_getElem h)
  have h3 : (decide (k = 0) || entryLess l[k - 1] l[k]) = true ↔ (0 < k → ∀ y, l[k - 1]? = some y → entryLess y l[k] = true) := by
    have : l[k - 1]? = some l[k - 1] := List.getElem?_eq_getElem (by omega)
    rw [this, Bool.or_eq_true, decide_eq_true_eq]
    constructor
    · rintro (h | h) h0 y ⟨⟩
      · omega
      · exact h
    · intro h
      by_cases h0 : k = 0
      · exact .inl h0
      · exact .inr (h (by omega) _ rfl)
  simp only [eOk, Bool.and_eq_true, beq_iff_eq, h2, h3, EntryR, and_assoc]
theorem queueOk_go (l : List Entry) : queueOk l = (decide (l.length ≤ 10) && qGo l 0) := by
  rw [Bool.eq_iff_iff]
  rw [show queueOk l = true ↔ QueueP l from ⟨queueP_of, queueOk_t⟩]
  simp only [decide_eq_true_eq, Bool.and_eq_true, QueueP, qGo_iff]
  apply and_congr_right
  intro _
  constructor
  · intro h i hi _
    exact (eOk_iff l i hi).2 (h i _ (List.getElem?_eq_getElem hi))
  · intro h i e he
    obtain ⟨hi, rfl⟩ := List.getElem?_eq_some_iff.1 he
    exact (eOk_iff l i hi).1 (h i hi (Nat.zero_le _))
instance sQueueOk_c : HC 240 (∀ (W : World) (list : List Entry) (v : Value), Rs entryL W v list →Sp W [] 240 #[v] (RV (.bool (queueOk list)))) := by
 refine ⟨fun W list v ⟨a, c, e, hc, hr⟩ => ?_⟩
 subst e; have hl := hr.len; rw [queueOk_go]
 refine gENT (vs := [_]) Tryz.func240 ?_
 repeat' first | refine ST ?_ | intro _ | apply And.intro
 · simp; omega
 refine gFOR 3 list.length (fun k => qGo list 0 = qGo list k) rfl fun k hk hv => ?_
 repeat' first | refine ST ?_ | intro _ | apply And.intro
 all_goals first | (rw [hv, qGo, dif_pos ‹_›]; grind [eOk]) | (rw [hv, qGo, dif_neg ‹_›]; simp; omega)
end SX
end Go.Proofs.YthnbaikmbgaddaaGreat
/- Wheels. -/
namespace Go.Proofs.YthnbaikmbgaddaaGreat
namespace SX
open Go Go.RowKit
set_option linter.unusedVariables false
set_option linter.unusedSimpArgs false
set_option maxRecDepth 10000
set_option maxHeartbeats 1000000
attribute [local irreducible] CD DN OPL AT QL QT CND RETG BKP HL HT HO slA slHo slP ptC pull pulls
instance sl9All_c : HC 244 (∀ (W : World) (w : Wheel) (v : Value), Rs (sl 167 pinL) W v w.spoke → w.spoke.flatten.length ≤ 1000000000 →Sp W [] 244 #[.agg #[v]] (RO 167 pinL w.spoke.flatten)) := by
 refine ⟨fun W w v ⟨a, c, e, hc, hr⟩ hb => ?_⟩
 subst e; have hl := hr.len
 refine gENT (vs := [_]) Tryz.func244 ?_
 repeat' first | refine ST ?_ | intro _ | apply And.intro
 refine gFORO 4 w.spoke.length 3 (fun _ : Unit => []) (fun k _ xs => xs = (w.spoke.take k).flatten) () (h0 := rfl) (body := fun k _ a c9 xs hk hv => ?_)
 have h8 : ∀ h : k < w.spoke.length, xs.length + w.spoke[k].length ≤ 1000000000 := by
   intro h
   have h1 : ((w.spoke.take k).flatten ++ (w.spoke[k] ++ (w.spoke.drop (k + 1)).flatten)) = w.spoke.flatten := by
     rw [← List.flatten_cons, ← List.drop_eq_getElem_cons h, ← List.flatten_append, List.take_append_drop]
   have h2 := congrArg List.length h1
   simp only [List.length_append] at h2
   rw [hv]; omega
 repeat' first | refine ST ?_ | intro _ | apply And.intro
 · have := h8 ‹_›
   repeat' first | refine ST ?_ | intro _ | apply And.intro
   rw [hv]; exact (flat_take (List.getElem?_eq_getElem ‹k < w.spoke.length›)).symm
 · rw [hv, List.take_of_length_le (by omega)]
end SX
end Go.Proofs.YthnbaikmbgaddaaGreat
