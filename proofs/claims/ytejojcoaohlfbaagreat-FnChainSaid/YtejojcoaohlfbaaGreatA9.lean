/- Texts of this claim, put together by program. -/
import Derived.Test.YtejojcoaohlfbaaGreatMdly
import Derived.Test.YtejojcoaohlfbaaGreatMdlm
import Derived.Test.YtejojcoaohlfbaaGreatSx9
namespace Go.Proofs.YtejojcoaohlfbaaGreat
namespace SX
open Go Go.RowKit
set_option linter.unusedVariables false
set_option linter.unusedSimpArgs false
set_option maxRecDepth 10000
set_option maxHeartbeats 1000000
attribute [local irreducible] CD DN OPL AT QL QT CND RETG BKP HL HT HO slA slHo slP ptC pull pulls
abbrev HsR := HouseR 159 199 166
instance l1Max_c : HC 248 (∀ (W : World) (a b : Int),Sp W [] 248 #[vi a, vi b] (RV (vi (if a > b then a else b)))) := by
 refine ⟨fun W a b => gENT (vs := [_, _]) Tryz.func248 ?_⟩
 repeat' first | refine ST ?_ | intro _ | apply And.intro
 all_goals simp [*]
instance l1In_c : HC 112 (∀ (W : World) (n lo hi : Int),Sp W [] 112 #[vi n, vi lo, vi hi] (RV (.bool (inB n lo hi)))) := by
 refine ⟨fun W n lo hi => gENT (vs := [_, _, _]) Tryz.func112 ?_⟩
 repeat' first | refine ST ?_ | intro _ | apply And.intro
 all_goals simp [inB, *]
instance iWithin_c : HC 117 (∀ (W : World) (n lo hi : Int),Sp W [] 117 #[vi n, vi lo, vi hi] (RV (.bool (inB n lo hi)))) := by
 refine ⟨fun W n lo hi => gENT (vs := [_, _, _]) Tryz.func117 ?_⟩
 repeat' first | refine ST ?_ | intro _ | apply And.intro
 all_goals simp [inB, *]
instance sRulesOk_c : HC 111 (∀ (W : World) (cs : List Value) (r : Rules), RulesR W cs r →Sp W [] 111 #[.agg cs.toArray] (RV (.bool (rulesOk r)))) := by
 refine ⟨fun W cs r ⟨a, c, e, hc, hr⟩ => ?_⟩
 subst e; have hl := hr.len
 refine gENT (vs := [_]) Tryz.func111 ?_
 repeat' first | refine ST ?_ | intro _ | apply And.intro
 all_goals try (simp [rulesOk, *]; done)
 refine gFOR 3 r.seats.length (fun k => allSeats r.seats = allSeats (r.seats.drop k)) rfl fun k hk hv => ?_
 repeat' first | refine ST ?_ | intro _ | apply And.intro
 all_goals grind [rulesOk, allSeats, List.drop_eq_getElem_cons]
instance sPartyOk_c : HC 181 (∀ (W : World) (cs : List Value) (r : Rules) (p : Party) (now : Int), RulesR W cs r →Sp W [] 181 #[.agg cs.toArray, .agg (partyE p).toArray, vi now] (RV (.bool (partyOk r p now)))) := by
 refine ⟨fun W cs r p now hr => gENT (vs := [_, _, _]) Tryz.func181 ?_⟩
 obtain ⟨a, c, rfl, hc, h⟩ := id hr
 repeat' first | refine ST ?_ | intro _ | apply And.intro
 all_goals grind [partyOk]
instance sEntryLess_c : HC 365 (∀ (W : World) (a b : Entry),Sp W [] 365 #[.agg (entryE a).toArray, .agg (entryE b).toArray] (RV (.bool (entryLess a b)))) := by
 refine ⟨fun W a b => gENT (vs := [_, _]) Tryz.func365 ?_⟩
 repeat' first | refine ST ?_ | intro _ | apply And.intro
 all_goals grind [entryLess]
instance sPinLess_c : HC 366 (∀ (W : World) (a b : Pin),Sp W [] 366 #[.agg (pinE a).toArray, .agg (pinE b).toArray] (RV (.bool (pinLess a b)))) := by
 refine ⟨fun W a b => gENT (vs := [_, _]) Tryz.func366 ?_⟩
 repeat' first | refine ST ?_ | intro _ | apply And.intro
 all_goals grind [pinLess]
instance sLedgerOk_c : HC 310 (∀ (W : World) (l : Ledger),Sp W [] 310 #[.agg (ledgerE l).toArray] (RV (.bool (ledgerOk l)))) := by
 refine ⟨fun W l => gENT (vs := [_]) Tryz.func310 ?_⟩
 repeat' first | refine ST ?_ | intro _ | apply And.intro
 all_goals grind [ledgerOk]
instance sl5Level_c : HC 182 (∀ (W : World) (cs : List Value) (r : Rules) (tier waited : Int), RulesR W cs r → 1 ≤ r.period →Sp W [] 182 #[.agg cs.toArray, vi tier, vi waited] (RV (vi (levelAt r tier waited)))) := by
 refine ⟨fun W cs r t u hr hp => gENT (vs := [_, _, _]) Tryz.func182 ?_⟩
 obtain ⟨a, c, rfl, hc, h⟩ := id hr
 repeat' first | refine ST ?_ | intro _ | apply And.intro
 all_goals grind [levelAt]
instance sLevelOf_c : HC 82 (∀ (W : World) (cs : List Value) (r : Rules) (p : Party) (now : Int), RulesR W cs r →Sp W [] 82 #[.agg cs.toArray, .agg (partyE p).toArray, vi now] (RV (vi (levelOf r p now)))) := by
 refine ⟨fun W cs r p now hr => gENT (vs := [_, _, _]) Tryz.func82 ?_⟩
 obtain ⟨a, c, rfl, hc, h⟩ := id hr
 have h8 := @per_pos r p now
 repeat' first | refine ST ?_ | intro _ | apply And.intro
 all_goals grind [levelOf]
instance sEntryOf_c : HC 313 (∀ (W : World) (cs : List Value) (r : Rules) (p : Party) (now : Int), RulesR W cs r →Sp W [] 313 #[.agg cs.toArray, .agg (partyE p).toArray, vi now] (RV (.tuple #[.agg (entryE (entryOf r p now)).toArray, .bool (entryOk r p now)]))) := by
 refine ⟨fun W cs r p now hr => gENT (vs := [_, _, _]) Tryz.func313 ?_⟩
 obtain ⟨a, c, rfl, hc, h⟩ := id hr
 repeat' first | refine ST ?_ | intro _ | apply And.intro
 all_goals grind [entryOf, entryOk, entryE]
instance sCountIn_c : HC 116 (∀ (W : World) (list : List Party) (v : Value) (cabin : Int), Rs partyL W v list →Sp W [] 116 #[v, vi cabin] (RV (vi (countGo list cabin 0)))) := by
 refine ⟨fun W list v cabin ⟨a, c, e, hc, hr⟩ => ?_⟩
 subst e; have hl := hr.len
 refine gENT (vs := [_, _]) Tryz.func116 ?_
 repeat' first | refine ST ?_ | intro _ | apply And.intro
 refine gFORA 6 list.length (fun n => [(5, I n)]) (fun k n => countGo list cabin 0 = countGo (list.drop k) cabin n) 0 rfl fun k n hk hv => ?_
 repeat' first | refine ST ?_ | intro _ | apply And.intro
 all_goals grind [countGo, List.drop_eq_getElem_cons]
instance sHeldIn_c : HC 225 (∀ (W : World) (list : List Party) (v : Value) (cabin : Int), Rs partyL W v list →Sp W [] 225 #[v, vi cabin] (RV (vi (heldGo list cabin 0)))) := by
 refine ⟨fun W list v cabin ⟨a, c, e, hc, hr⟩ => ?_⟩
 subst e; have hl := hr.len
 refine gENT (vs := [_, _]) Tryz.func225 ?_
 repeat' first | refine ST ?_ | intro _ | apply And.intro
 refine gFORA 6 list.length (fun n => [(5, I n)]) (fun k n => heldGo list cabin 0 = heldGo (list.drop k) cabin n) 0 rfl fun k n hk hv => ?_
 repeat' first | refine ST ?_ | intro _ | apply And.intro
 all_goals grind [heldGo, List.drop_eq_getElem_cons]
instance sTiedIn_c : HC 226 (∀ (W : World) (list : List Party) (v : Value) (cabin : Int), Rs partyL W v list →Sp W [] 226 #[v, vi cabin] (RV (vi (tiedGo list cabin 0)))) := by
 refine ⟨fun W list v cabin ⟨a, c, e, hc, hr⟩ => ?_⟩
 subst e; have hl := hr.len
 refine gENT (vs := [_, _]) Tryz.func226 ?_
 repeat' first | refine ST ?_ | intro _ | apply And.intro
 refine gFORA 6 list.length (fun n => [(5, I n)]) (fun k n => tiedGo list cabin 0 = tiedGo (list.drop k) cabin n) 0 rfl fun k n hk hv => ?_
 repeat' first | refine ST ?_ | intro _ | apply And.intro
 all_goals grind [tiedGo, List.drop_eq_getElem_cons]
instance sQueueAt_c : HC 328 (∀ (W : World) (list : List Entry) (v : Value) (id : Int), Rs entryL W v list →Sp W [] 328 #[v, vi id] (RV (vi (queueAt list id 0)))) := by
 refine ⟨fun W list v id ⟨a, c, e, hc, hr⟩ => ?_⟩
 subst e; have hl := hr.len
 refine gENT (vs := [_, _]) Tryz.func328 ?_
 repeat' first | refine ST ?_ | intro _ | apply And.intro
 refine gFOR 5 list.length (fun k => queueAt list id 0 = queueAt (list.drop k) id k) rfl fun k hk hv => ?_
 repeat' first | refine ST ?_ | intro _ | apply And.intro
 all_goals grind [queueAt, List.drop_eq_getElem_cons]
instance sSameRow_c : HC 220 (∀ (W : World) (x y : List Entry) (v u : Value), Rs entryL W v x → Rs entryL W u y →Sp W [] 220 #[v, u] (RV (.bool (sameRow x y)))) := by
 refine ⟨fun W x y v u ⟨a, c, e, hc, hr⟩ ⟨a2, c2, e2, hc2, hr2⟩ => ?_⟩
 subst e e2; have hl := hr.len; have hl2 := hr2.len
 refine gENT (vs := [_, _]) Tryz.func220 ?_
 repeat' first | refine ST ?_ | intro _ | apply And.intro
 all_goals try (exact (sameRow_ne (by omega)).symm)
 refine gFOR 5 x.length (fun k => sameRow x y = sameRow (x.drop k) (y.drop k)) rfl fun k hk hv => ?_
 repeat' first | refine ST ?_ | intro _ | apply And.intro
 all_goals grind [sameRow, List.drop_eq_getElem_cons]
instance sSamePins_c : HC 222 (∀ (W : World) (x y : List Pin) (v u : Value), Rs pinL W v x → Rs pinL W u y →Sp W [] 222 #[v, u] (RV (.bool (samePins x y)))) := by
 refine ⟨fun W x y v u ⟨a, c, e, hc, hr⟩ ⟨a2, c2, e2, hc2, hr2⟩ => ?_⟩
 subst e e2; have hl := hr.len; have hl2 := hr2.len
 refine gENT (vs := [_, _]) Tryz.func222 ?_
 repeat' first | refine ST ?_ | intro _ | apply And.intro
 all_goals try (exact (samePins_ne (by omega)).symm)
 refine gFOR 5 x.length (fun k => samePins x y = samePins (x.drop k) (y.drop k)) rfl fun k hk hv => ?_
 repeat' first | refine ST ?_ | intro _ | apply And.intro
 all_goals grind [samePins, List.drop_eq_getElem_cons]
theorem pIns_go {list : List Pin} {p : Pin} {k : Nat} (hv : pIns list p = list.take k ++ pIns (list.drop k) p) (h : k < list.length) (hl : pinLess list[k] p = true) : pIns list p = list.take (k + 1) ++ pIns (list.drop (k + 1)) p := by
 grind [pIns, List.drop_eq_getElem_cons, List.take_append_getElem]
theorem pIns_at {list : List Pin} {p : Pin} {k : Nat} (hv : pIns list p = list.take k ++ pIns (list.drop k) p) (h : ∀ h : k < list.length, pinLess list[k] p = false) : list.take k ++ [p] ++ list.drop k = pIns list p := by
 by_cases h1 : k < list.length
 · have h2 := h h1
   grind [pIns, List.drop_eq_getElem_cons]
 · rw [hv, List.drop_eq_nil_of_le (by omega)]; simp [pIns]
theorem qIns_go {list : List Entry} {p : Entry} {k : Nat} (hv : qIns list p = list.take k ++ qIns (list.drop k) p) (h : k < list.length) (hl : entryLess list[k] p = true) : qIns list p = list.take (k + 1) ++ qIns (list.drop (k + 1)) p := by
 grind [qIns, List.drop_eq_getElem_cons, List.take_append_getElem]
theorem qIns_at {list : List Entry} {p : Entry} {k : Nat} (hv : qIns list p = list.take k ++ qIns (list.drop k) p) (h : ∀ h : k < list.length, entryLess list[k] p = false) : list.take k ++ [p] ++ list.drop k = qIns list p := by
 by_cases h1 : k < list.length
 · have h2 := h h1
   grind [qIns, List.drop_eq_getElem_cons]
 · rw [hv, List.drop_eq_nil_of_le (by omega)]; simp [qIns]
instance sl7Copy_c : HC 317 (∀ (W : World) (list : List Entry) (v : Value), Rs entryL W v list → list.length ≤ 1048576 →Sp W [] 317 #[v] (RO 159 entryL list)) := by
 refine ⟨fun W list v ⟨a, c, e, hc, hr⟩ hb => ?_⟩
 subst e
 refine gENT (vs := [_]) Tryz.func317 ?_
 repeat' first | refine ST ?_ | intro _ | apply And.intro
 all_goals simp
instance sl9Put_c : HC 316 (∀ (W : World) (list : List Pin) (v : Value) (p : Pin), Rs pinL W v list → list.length ≤ 1048576 →Sp W [] 316 #[v, .agg (pinE p).toArray] (RO 166 pinL (pIns list p))) := by
 refine ⟨fun W list v p ⟨a, c, e, hc, hr⟩ hb => ?_⟩
 subst e
 refine gENT (vs := [_, _]) Tryz.func316 ?_
 repeat' first | refine ST ?_ | intro _ | apply And.intro
 refine gFOR 5 list.length (fun k => pIns list p = list.take k ++ pIns (list.drop k) p) rfl fun k hk hv => ?_
 repeat' first | refine ST ?_ | intro _ | apply And.intro
 all_goals first | exact pIns_go hv ‹_› ‹_› | exact pIns_at hv (fun h => by first | assumption | omega)
instance sl7Put_c : HC 314 (∀ (W : World) (list : List Entry) (v : Value) (p : Entry), Rs entryL W v list → list.length ≤ 1048576 →Sp W [] 314 #[v, .agg (entryE p).toArray] (RO 159 entryL (qIns list p))) := by
 refine ⟨fun W list v p ⟨a, c, e, hc, hr⟩ hb => ?_⟩
 subst e
 refine gENT (vs := [_, _]) Tryz.func314 ?_
 repeat' first | refine ST ?_ | intro _ | apply And.intro
 refine gFOR 5 list.length (fun k => qIns list p = list.take k ++ qIns (list.drop k) p) rfl fun k hk hv => ?_
 repeat' first | refine ST ?_ | intro _ | apply And.intro
 all_goals first | exact qIns_go hv ‹_› ‹_› | exact qIns_at hv (fun h => by first | assumption | omega)
instance sPinsIn_c : HC 224 (∀ (W : World) (list : List Party) (v : Value) (cabin : Int), Rs partyL W v list → list.length ≤ 1000000 →Sp W [] 224 #[v, vi cabin] (RO 166 pinL (pinsGo list cabin []))) := by
 refine ⟨fun W list v cabin ⟨a, c, e, hc, hr⟩ hb => ?_⟩
 subst e
 refine gENT (vs := [_, _]) Tryz.func224 ?_
 repeat' first | refine ST ?_ | intro _ | apply And.intro
 refine gFORO 6 list.length 5 (fun _ : Unit => []) (fun k _ xs => xs.length ≤ k ∧ pinsGo list cabin [] = pinsGo (list.drop k) cabin xs) () (h0 := ⟨by simp, rfl⟩) (body := fun k _ a c9 xs hk ⟨hl, hv⟩ => ?_)
 repeat' first | refine ST ?_ | intro _ | apply And.intro
 all_goals grind [pinsGo, pIns_len, List.drop_eq_getElem_cons, List.drop_eq_nil_of_le]
theorem qOf_len9 (r : Rules) (cabin now : Int) : ∀ list : List Party, (queueOf r list cabin now).length ≤ list.length
 | [] => by simp [queueOf]
 | p :: ps => by
   have := qOf_len9 r cabin now ps
   rw [queueOf]; split
   · rw [qIns_len, List.length_cons]; omega
   · rw [List.length_cons]; omega
instance sQueueOf_c : HC 221 (∀ (W : World) (cs : List Value) (r : Rules) (list : List Party) (v : Value) (cabin now : Int), RulesR W cs r → Rs partyL W v list → list.length ≤ 1000000 →Sp W [] 221 #[.agg cs.toArray, v, vi cabin, vi now] (RO 159 entryL (queueOf r list cabin now))) := by
 refine ⟨fun W cs r list v cabin now hrr ⟨a, c, e, hc, hr⟩ hb => ?_⟩
 subst e; have hrr' := hrr; obtain ⟨a1, c1, rfl, hc1, hr1⟩ := hrr
 refine gENT (vs := [_, _, _, _]) Tryz.func221 ?_
 repeat' first | refine ST ?_ | intro _ | apply And.intro
 refine gFORDO 10 list.length 9 (by omega) (fun k xs => xs = queueOf r (list.drop k) cabin now) (h0 := by simp [queueOf]) (body0 := fun a c9 xs hv => ?_) (bodyS := fun k a c9 xs hk hv => ?_)
 · repeat' first | refine ST ?_ | intro _ | apply And.intro
   all_goals first | (exfalso; omega) | simpa using hv
 · have hl := qOf_len9 r cabin now (list.drop (k + 1)); rw [← hv, List.length_drop] at hl
   repeat' first | refine ST ?_ | intro _ | apply And.intro
   all_goals first | (exfalso; omega) | (rw [hv, List.drop_eq_getElem_cons (show k < list.length by omega)]; simp [queueOf, *]; done)
def eOk (l : List Entry) (k : Nat) (h : k < l.length) : Bool := inB l[k].level 0 4 && inB l[k].turn 1 1000000 && inB l[k].id 1 999 && inB l[k].size 1 6 && (decide (k = 0) || entryLess l[k - 1] l[k]) && queueAt l l[k].id 0 == (k : Int)
def qGo (l : List Entry) (k : Nat) : Bool := if h : k < l.length then eOk l k h && qGo l (k + 1) else true
termination_by l.length - k
theorem qGo_iff (l : List Entry) (k : Nat) : qGo l k = true ↔ ∀ i (h : i < l.length), k ≤ i → eOk l i h = true := by
 induction hn : l.length - k generalizing k with
 | zero => rw [qGo, dif_neg (by omega)]; simp; intro i h hk; omega
 | succ n ih =>
   rw [qGo, dif_pos (by omega), Bool.and_eq_true, ih (k + 1) (by omega)]
   constructor
   · rintro ⟨h1, h2⟩ i h hk
     by_cases he : i = k
     · subst he; exact h1
     · exact h2 i h (by omega)
   · intro h1
     exact ⟨h1 k (by omega) (Nat.le_refl _), fun i h hk => h1 i h (by omega)⟩
theorem eOk_iff (l : List Entry) (k : Nat) (h : k < l.length) : eOk l k h = true ↔ EntryR l[k] ∧ (0 < k → ∀ y, l[k - 1]? = some y → entryLess y l[k] = true) ∧ ∀ (j : Nat) (y : Entry), j < k → l[j]? = some y → y.id ≠ l[k].id := by
 have h2 : (queueAt l l[k].id 0 = (k : Int)) ↔ ∀ (j : Nat) (y : Entry), j < k → l[j]? = some y → y.id ≠ l[k].id := queueAt_at (List.getElem?_eq_getElem h)
 have h3 : (decide (k = 0) || entryLess l[k - 1] l[k]) = true ↔ (0 < k → ∀ y, l[k - 1]? = some y → entryLess y l[k] = true) := by
  have : l[k - 1]? = some l[k - 1] := List.getElem?_eq_getElem (by omega)
  rw [this, Bool.or_eq_true, decide_eq_true_eq]
  constructor
  · rintro (h | h) h0 y ⟨⟩
    · omega
    · exact h
  · intro h
    by_cases h0 : k = 0
    · exact .inl h0
    · exact .inr (h (by omega) _ rfl)
 simp only [eOk, Bool.and_eq_true, beq_iff_eq, h2, h3, EntryR, and_assoc]
theorem queueOk_go (l : List Entry) : queueOk l = (decide (l.length ≤ 10) && qGo l 0) := by
 rw [Bool.eq_iff_iff]
 rw [show queueOk l = true ↔ QueueP l from ⟨queueP_of, queueOk_t⟩]
 simp only [decide_eq_true_eq, Bool.and_eq_true, QueueP, qGo_iff]
 apply and_congr_right
 intro _
 constructor
 · intro h i hi _
   exact (eOk_iff l i hi).2 (h i _ (List.getElem?_eq_getElem hi))
 · intro h i e he
   obtain ⟨hi, rfl⟩ := List.getElem?_eq_some_iff.1 he
   exact (eOk_iff l i hi).1 (h i hi (Nat.zero_le _))
instance sQueueOk_c : HC 311 (∀ (W : World) (list : List Entry) (v : Value), Rs entryL W v list →Sp W [] 311 #[v] (RV (.bool (queueOk list)))) := by
 refine ⟨fun W list v ⟨a, c, e, hc, hr⟩ => ?_⟩
 subst e; have hl := hr.len; rw [queueOk_go]
 refine gENT (vs := [_]) Tryz.func311 ?_
 repeat' first | refine ST ?_ | intro _ | apply And.intro
 · simp; omega
 refine gFOR 3 list.length (fun k => qGo list 0 = qGo list k) rfl fun k hk hv => ?_
 repeat' first | refine ST ?_ | intro _ | apply And.intro
 all_goals first | (rw [hv, qGo, dif_pos ‹_›]; grind [eOk]) | (rw [hv, qGo, dif_neg ‹_›]; simp; omega)
instance sl9All_c : HC 315 (∀ (W : World) (w : Wheel) (v : Value), Rs (sl 166 pinL) W v w.spoke → w.spoke.flatten.length ≤ 1000000000 →Sp W [] 315 #[.agg #[v]] (RO 166 pinL w.spoke.flatten)) := by
 refine ⟨fun W w v ⟨a, c, e, hc, hr⟩ hb => ?_⟩
 subst e; have hl := hr.len
 refine gENT (vs := [_]) Tryz.func315 ?_
 repeat' first | refine ST ?_ | intro _ | apply And.intro
 refine gFORO 4 w.spoke.length 3 (fun _ : Unit => []) (fun k _ xs => xs = (w.spoke.take k).flatten) () (h0 := rfl) (body := fun k _ a c9 xs hk hv => ?_)
 have h8 : ∀ h : k < w.spoke.length, xs.length + w.spoke[k].length ≤ 1000000000 := by
  intro h
  have h1 : ((w.spoke.take k).flatten ++ (w.spoke[k] ++ (w.spoke.drop (k + 1)).flatten)) = w.spoke.flatten := by
   rw [← List.flatten_cons, ← List.drop_eq_getElem_cons h, ← List.flatten_append, List.take_append_drop]
  have h2 := congrArg List.length h1
  simp only [List.length_append] at h2
  rw [hv]; omega
 repeat' first | refine ST ?_ | intro _ | apply And.intro
 · have := h8 ‹_›
   repeat' first | refine ST ?_ | intro _ | apply And.intro
   rw [hv]; exact (flat_take (List.getElem?_eq_getElem ‹k < w.spoke.length›)).symm
 · rw [hv, List.take_of_length_le (by omega)]
instance l1Has_c : HC 81 (∀ (W : World) (list : List Int) (v : Value) (x : Int), Rs intL W v list →Sp W [] 81 #[v, vi x] (RV (.bool (list.any (fun e : Int => e == x))))) := by
 refine ⟨fun W list v x ⟨a, c, e, hc, hr⟩ => ?_⟩
 subst e; have hl := hr.len
 refine gENT (vs := [_, _]) Tryz.func81 ?_
 repeat' first | refine ST ?_ | intro _ | apply And.intro
 refine gFOR 5 list.length (fun k => list.any (fun e : Int => e == x) = (list.drop k).any (fun e : Int => e == x)) rfl fun k hk hv => ?_
 repeat' first | refine ST ?_ | intro _ | apply And.intro
 all_goals grind [List.drop_eq_getElem_cons]
instance s11At_c : HC 143 (∀ (W : World) (list : List Party) (v : Value) (id : Int), Rs partyL W v list →Sp W [] 143 #[v, vi id] (RV (vi (atId list id)))) := by
 refine ⟨fun W list v id ⟨a, c, e, hc, hr⟩ => ?_⟩
 subst e; have hl := hr.len
 refine gENT (vs := [_, _]) Tryz.func143 ?_
 repeat' first | refine ST ?_ | intro _ | apply And.intro
 refine gFOR 5 list.length (fun k => atId list id = idxF (fun e : Party => e.id == id) (list.drop k) k) rfl fun k hk hv => ?_
 repeat' first | refine ST ?_ | intro _ | apply And.intro
 all_goals grind [idxF, List.drop_eq_getElem_cons]
instance sResting_c : HC 51 (∀ (W : World) (p : Party) (now : Int),Sp W [] 51 #[.agg (partyE p).toArray, vi now] (RV (.bool (restingB p now)))) := by
 refine ⟨fun W p now => gENT (vs := [_, _]) Tryz.func51 ?_⟩
 repeat' first | refine ST ?_ | intro _ | apply And.intro
 all_goals grind [restingB]
instance sFailed_c : HC 325 (∀ (W : World) (cs : List Value) (r : Rules) (p : Party) (now : Int), RulesR W cs r →Sp W [] 325 #[.agg cs.toArray, .agg (partyE p).toArray, vi now] (RV (.tuple #[.agg (partyE (failedX r p now)).toArray, .bool (failedB r p now)]))) := by
 refine ⟨fun W cs r p now hr => gENT (vs := [_, _, _]) Tryz.func325 ?_⟩
 obtain ⟨a, c, rfl, hc, h⟩ := id hr
 repeat' first | refine ST ?_ | intro _ | apply And.intro
 all_goals simp_all [failedX, failedP, failedB, partyZ, partyE]
instance sl8Turn_c : HC 327 (∀ (W : World) (l : Ledger) (n df dh ds dt : Int),Sp W [] 327 #[.agg (ledgerE l).toArray, vi n, vi df, vi dh, vi ds, vi dt] (RV (.tuple #[.agg (ledgerE (movedL l n (wr (df * n)) (wr (dh * n)) (wr (ds * n)) (wr (dt * n)))).toArray, .bool (movedB l n (wr (df * n)) (wr (dh * n)) (wr (ds * n)) (wr (dt * n)))]))) := by
 refine ⟨fun W l n df dh ds dt => gENT (vs := [_, _, _, _, _, _]) Tryz.func327 ?_⟩
 repeat' first | refine ST ?_ | intro _ | apply And.intro
 all_goals simp_all [movedL, movedB, mvL, ledgerE]
def allGo (p : Nat → Bool) (n i : Nat) : Bool := if i < n then p i && allGo p n (i + 1) else true
termination_by n - i
theorem allGo_lt {p : Nat → Bool} {n i : Nat} (h : i < n) : allGo p n i = (p i && allGo p n (i + 1)) := by rw [allGo, if_pos h]
theorem allGo_ge {p : Nat → Bool} {n i : Nat} (h : ¬ i < n) : allGo p n i = true := by rw [allGo, if_neg h]
theorem allGo_iff {p : Nat → Bool} {n : Nat} : ∀ {i : Nat}, allGo p n i = true ↔ ∀ j, i ≤ j → j < n → p j = true := by
 intro i
 induction hn : n - i generalizing i with
 | zero => rw [allGo_ge (by omega)]; simp; intro j h1 h2; omega
 | succ m ih =>
   rw [allGo_lt (by omega), Bool.and_eq_true, ih (by omega)]
   constructor
   · rintro ⟨h1, h2⟩ j hj hjn
     by_cases he : j = i
     · subst he; exact h1
     · exact h2 j (by omega) hjn
   · intro h
     exact ⟨h i (Nat.le_refl _) (by omega), fun j hj hjn => h j (by omega) hjn⟩
def pinP (l : List Pin) (i : Nat) : Bool := l[i]?.any fun x => inB x.at' 1 1000008 && inB x.id 1 999 && allGo (fun k => l[k]?.any fun y => !(y.id == x.id)) i 0
def spkP (ss : List (List Pin)) (i : Nat) : Bool := ss[i]?.any fun l => allGo (fun k => l[k]?.any fun x => Int.tmod x.at' 9 == (i : Int) && (decide (k = 0) || l[k - 1]?.any fun y => pinLess y x)) l.length 0
theorem wheelOk_go (w : Wheel) : wheelOk w = (decide (w.spoke.length = 9) && decide (w.spoke.flatten.length ≤ 10) && allGo (pinP w.spoke.flatten) w.spoke.flatten.length 0 && allGo (spkP w.spoke) w.spoke.length 0) := by
 rw [Bool.eq_iff_iff, show wheelOk w = true ↔ WheelP w from ⟨wheelP_of, wheelOk_t⟩]
 simp only [Bool.and_eq_true, decide_eq_true_eq, WheelP, allGo_iff]
 have h1 : ((∀ p ∈ w.spoke.flatten, PinR p) ∧ (w.spoke.flatten.map (·.id)).Nodup) ↔ ∀ j, 0 ≤ j → j < w.spoke.flatten.length → pinP w.spoke.flatten j = true := by
  generalize w.spoke.flatten = l
  rw [List.Nodup, List.pairwise_iff_getElem]
  simp only [List.length_map, List.getElem_map]
  constructor
  · rintro ⟨h1, h2⟩ j _ hj
    have h3 := h1 _ (List.getElem_mem hj)
    simp only [pinP, List.getElem?_eq_getElem hj, Option.any_some, Bool.and_eq_true, h3.1, h3.2, true_and, allGo_iff]
    intro k _ hk
    rw [List.getElem?_eq_getElem (by omega)]
    simp [h2 k j (by omega) hj hk]
  · intro h
    refine ⟨fun p hp => ?_, fun i j hi hj hij => ?_⟩
    · obtain ⟨j, hj, rfl⟩ := List.mem_iff_getElem.1 hp
      have := h j (Nat.zero_le _) hj
      simp only [pinP, List.getElem?_eq_getElem hj, Option.any_some, Bool.and_eq_true] at this
      exact ⟨this.1.1, this.1.2⟩
    · have := h j (Nat.zero_le _) hj
      simp only [pinP, List.getElem?_eq_getElem hj, Option.any_some, Bool.and_eq_true, allGo_iff] at this
      have := this.2 i (Nat.zero_le _) hij
      rw [List.getElem?_eq_getElem hi] at this
      simpa using this
 have h2 : (∀ (i : Nat) (l : List Pin), w.spoke[i]? = some l → SpokeP i l) ↔ ∀ j, 0 ≤ j → j < w.spoke.length → spkP w.spoke j = true := by
  have h3 : ∀ (i : Nat) (l : List Pin), SpokeP i l ↔ allGo (fun k => l[k]?.any fun x => Int.tmod x.at' 9 == (i : Int) && (decide (k = 0) || l[k - 1]?.any fun y => pinLess y x)) l.length 0 = true := by
   intro i l
   rw [allGo_iff]
   constructor
   · intro h k _ hk
     have h4 := h k _ (List.getElem?_eq_getElem hk)
     rw [List.getElem?_eq_getElem hk, List.getElem?_eq_getElem (show k - 1 < l.length by omega)]
     simp only [Option.any_some, Bool.and_eq_true, beq_iff_eq, h4.1, true_and, Bool.or_eq_true, decide_eq_true_eq]
     by_cases h0 : k = 0
     · exact .inl h0
     · exact .inr (h4.2 (by omega) _ (List.getElem?_eq_getElem (by omega)))
   · intro h m x hx
     obtain ⟨hm, rfl⟩ := List.getElem?_eq_some_iff.1 hx
     have h4 := h m (Nat.zero_le _) hm
     rw [List.getElem?_eq_getElem hm, List.getElem?_eq_getElem (show m - 1 < l.length by omega)] at h4
     simp only [Option.any_some, Bool.and_eq_true, beq_iff_eq, Bool.or_eq_true, decide_eq_true_eq] at h4
     refine ⟨h4.1, fun h0 y hy => ?_⟩
     rw [List.getElem?_eq_getElem (by omega)] at hy
     injection hy with hy
     subst hy
     exact h4.2.resolve_left (by omega)
  constructor
  · intro h j _ hj
    simp only [spkP, List.getElem?_eq_getElem hj, Option.any_some]
    exact (h3 j _).1 (h j _ (List.getElem?_eq_getElem hj))
  · intro h i l hl
    obtain ⟨hi, rfl⟩ := List.getElem?_eq_some_iff.1 hl
    have := h i (Nat.zero_le _) hi
    simp only [spkP, List.getElem?_eq_getElem hi, Option.any_some] at this
    exact (h3 i _).2 this
 rw [← h1, ← h2]
 simp only [and_assoc]
theorem pin_at {l : List Pin} {k : Nat} (h : k < l.length) : pinP l k = (inB l[k].at' 1 1000008 && inB l[k].id 1 999 && allGo (fun j => l[j]?.any fun y => !(y.id == l[k].id)) k 0) := by simp [pinP, h]
theorem spk_at {ss : List (List Pin)} {i : Nat} (h : i < ss.length) : spkP ss i = allGo (fun k => ss[i][k]?.any fun x => Int.tmod x.at' 9 == (i : Int) && (decide (k = 0) || ss[i][k - 1]?.any fun y => pinLess y x)) ss[i].length 0 := by simp [spkP, h]
instance sWheelOk_c : HC 312 (∀ (W : World) (w : Wheel) (v : Value), Rs (sl 166 pinL) W v w.spoke → w.spoke.flatten.length ≤ 1000000000 →Sp W [] 312 #[.agg #[v]] (RV (.bool (wheelOk w)))) := by
 refine ⟨fun W w v hv0 hb => ?_⟩
 have hv1 := hv0; obtain ⟨a, c, rfl, hc, hr⟩ := hv0; have hl := hr.len; rw [wheelOk_go]
 refine gENT (vs := [_]) Tryz.func312 ?_
 repeat' first | refine ST ?_ | intro _ | apply And.intro
 · grind
 · grind
 refine gISS (k := fun hs => ?_)
 refine gFOR 4 w.spoke.flatten.length (fun k => allGo (pinP w.spoke.flatten) w.spoke.flatten.length 0 = allGo (pinP w.spoke.flatten) w.spoke.flatten.length k) rfl fun k hk hv => ?_
 repeat' first | refine ST ?_ | intro _ | apply And.intro
 · rw [hv, allGo_lt ‹k < _›, pin_at ‹k < _›]; simp [*]
 · rw [hv, allGo_lt ‹k < _›, pin_at ‹k < _›]; simp [*]
 · have hkl : k < w.spoke.flatten.length := ‹_›
   refine gFOR 5 k (fun j => allGo (fun j => w.spoke.flatten[j]?.any fun y => !(y.id == w.spoke.flatten[k].id)) k 0 = allGo (fun j => w.spoke.flatten[j]?.any fun y => !(y.id == w.spoke.flatten[k].id)) k j) rfl fun j hj hv2 => ?_
   repeat' first | refine ST ?_ | intro _ | apply And.intro
   · rw [hv, allGo_lt hkl, pin_at hkl, hv2, allGo_lt ‹j < k›, List.getElem?_eq_getElem (show j < w.spoke.flatten.length by omega)]; simp [*]
   · rw [hv2, allGo_lt ‹j < k›, List.getElem?_eq_getElem (show j < w.spoke.flatten.length by omega)]; simp [*]
   · rw [hv, allGo_lt hkl, pin_at hkl, hv2, allGo_ge ‹_›]; simp [*]
 rw [hv, allGo_ge ‹_›]
 refine gFOR 6 w.spoke.length (fun k => allGo (spkP w.spoke) w.spoke.length 0 = allGo (spkP w.spoke) w.spoke.length k) rfl fun i hi hv3 => ?_
 repeat' first | refine ST ?_ | intro _ | apply And.intro
 · have hil : i < w.spoke.length := ‹_›
   refine gFOR 7 w.spoke[i].length (fun k => allGo (fun k => w.spoke[i][k]?.any fun x => Int.tmod x.at' 9 == (i : Int) && (decide (k = 0) || w.spoke[i][k - 1]?.any fun y => pinLess y x)) w.spoke[i].length 0 = allGo (fun k => w.spoke[i][k]?.any fun x => Int.tmod x.at' 9 == (i : Int) && (decide (k = 0) || w.spoke[i][k - 1]?.any fun y => pinLess y x)) w.spoke[i].length k) rfl fun j hj hv4 => ?_
   repeat' first | refine ST ?_ | intro _ | apply And.intro
   · rw [hv3, allGo_lt hil, spk_at hil, hv4, allGo_lt ‹j < _›, List.getElem?_eq_getElem ‹j < _›]; simp [*]
   · have hj0 : 0 < j := ‹_›
     rw [hv3, allGo_lt hil, spk_at hil, hv4, allGo_lt ‹j < _›, List.getElem?_eq_getElem ‹j < _›, List.getElem?_eq_getElem (show j - 1 < w.spoke[i].length by omega)]; simp [*]; omega
   · have hj0 : 0 < j := ‹_›
     rw [hv4, allGo_lt ‹j < _›, List.getElem?_eq_getElem ‹j < _›, List.getElem?_eq_getElem (show j - 1 < w.spoke[i].length by omega)]; simp [*]
   · have h6 := ‹Int.tmod _ 9 = _›
     have h7 : j = 0 := ‹_›
     rw [hv4, allGo_lt ‹j < _›, List.getElem?_eq_getElem ‹j < _›]
     simp only [Option.any_some, h6, decide_eq_true h7, beq_self_eq_true, Bool.true_or, Bool.and_self, Bool.true_and]
   · rw [hv3, allGo_lt hil, spk_at hil, hv4, allGo_ge ‹_›]; simp
 · rw [hv3, allGo_ge ‹_›]; grind
end SX
end Go.Proofs.YtejojcoaohlfbaaGreat
