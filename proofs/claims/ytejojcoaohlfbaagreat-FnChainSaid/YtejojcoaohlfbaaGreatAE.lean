/- Texts of this claim, put together by program. -/
import Derived.Test.YtejojcoaohlfbaaGreatA9
namespace Go.Proofs.YtejojcoaohlfbaaGreat
namespace SX
open Go Go.RowKit
set_option linter.unusedVariables false
set_option linter.unusedSimpArgs false
set_option maxRecDepth 10000
set_option maxHeartbeats 1000000
attribute [local irreducible] CD DN OPL AT QL QT CND RETG BKP HL HT HO slA slHo slP ptC pull pulls
theorem foldl_pIns_len : ∀ (l out : List Pin), (l.foldl pIns out).length = out.length + l.length
 | [], out => by simp
 | p :: l, out => by rw [List.foldl_cons, foldl_pIns_len l, pIns_len, List.length_cons]; omega
instance sPinsOf_c : HC 223 (∀ (W : World) (w : Wheel) (v : Value), Rs (sl 166 pinL) W v w.spoke → w.spoke.flatten.length ≤ 1048576 →Sp W [] 223 #[.agg #[v]] (RO 166 pinL (pinsOf w))) := by
 refine ⟨fun W w v hv0 hb => ?_⟩
 have hv1 := hv0; obtain ⟨a, c, rfl, hc, hr⟩ := hv0; have hl := hr.len
 refine gENT (vs := [_]) Tryz.func223 ?_
 repeat' first | refine ST ?_ | intro _ | apply And.intro
 · simp [pinsOf, *]
 · have hw : wheelOk w = true := ‹_›
   refine gISS (j := 1) (k := fun hs => ?_)
   refine gFORO 5 w.spoke.flatten.length 3 (fun _ : Unit => []) (fun k _ xs => xs = (w.spoke.flatten.take k).foldl pIns []) () (h0 := rfl) (body := fun k _ a c9 xs hk hv => ?_)
   have hxl : xs.length = k := by rw [hv, foldl_pIns_len, List.length_take, List.length_nil]; omega
   repeat' first | refine ST ?_ | intro _ | apply And.intro
   · rw [hv, ← List.take_append_getElem ‹k < _›, List.foldl_append]; rfl
   · rw [hv, List.take_of_length_le (by omega)]; simp [pinsOf, pinsSort, hw]
instance sCabinOk_c : HC 219 (∀ (W : World) (cs : List Value) (x : Cabin), CabinR 166 W cs x → x.wheel.spoke.flatten.length ≤ 1048576 →Sp W [] 219 #[.agg cs.toArray] (RV (.bool (cabinOk x)))) := by
 refine ⟨fun W cs x hx hb => ?_⟩
 have hx1 := hx; obtain ⟨a1, c1, a2, c2, rfl, h1, h2, h3, h4⟩ := hx
 refine gENT (vs := [_]) Tryz.func219 ?_
 repeat' first | refine ST ?_ | intro _ | apply And.intro
 all_goals simp [cabinOk, *]
instance sAgrees_c : HC 115 (∀ (W : World) (cr : List Value) (r : Rules) (cs : List Value) (x : Cabin) (list : List Party) (v : Value) (cabin now : Int), RulesR W cr r → CabinR 166 W cs x → Rs partyL W v list → x.wheel.spoke.flatten.length ≤ 1048576 → list.length ≤ 1000000 →Sp W [] 115 #[.agg cr.toArray, .agg cs.toArray, v, vi cabin, vi now] (RV (.bool (agrees r x list cabin now)))) := by
 refine ⟨fun W cr r cs x list v cabin now hrr hx ⟨a, c, e, hc, hr⟩ hb hb2 => ?_⟩
 subst e
 have hx1 := hx; obtain ⟨a1, c1, a2, c2, rfl, h1, h2, h3, h4⟩ := hx
 have hr1 := hrr; obtain ⟨a3, c3, rfl, h5, h6⟩ := hrr
 refine gENT (vs := [_, _, _, _, _]) Tryz.func115 ?_
 repeat' first | refine ST ?_ | intro _ | apply And.intro
 all_goals simp [agrees, *]
def parP (h : House) (i : Nat) : Bool := h.parties[i]?.any fun p => partyOk h.rules p h.now && decide (p.turn < h.turn) && (decide (i = 0) || h.parties[i - 1]?.any fun q => decide (q.id < p.id)) &&
 allGo (fun k => h.parties[k]?.any fun q => !(q.turn == p.turn) && !(decide (q.turn < p.turn) && decide (q.since > p.since)) && !(decide (q.turn > p.turn) && decide (q.since < p.since))) i 0
theorem partiesOk_go (h : House) : partiesOk h = allGo (parP h) h.parties.length 0 := by
 rw [Bool.eq_iff_iff, allGo_iff]
 have h0 : partiesOk h = true ↔ PartiesP h := by simp [partiesOk]
 rw [h0]
 constructor
 · intro w j _ hj
   obtain ⟨w1, w2, w3, w4⟩ := w j _ (List.getElem?_eq_getElem hj)
   simp only [parP, List.getElem?_eq_getElem hj, Option.any_some, Bool.and_eq_true, decide_eq_true_eq, Bool.or_eq_true, allGo_iff]
   refine ⟨⟨⟨w1, w2⟩, ?_⟩, fun k _ hk => ?_⟩
   · by_cases h0 : j = 0
     · exact .inl h0
     · rw [List.getElem?_eq_getElem (show j - 1 < h.parties.length by omega)]
       exact .inr (by simpa using w3 (by omega) _ (List.getElem?_eq_getElem (by omega)))
   · rw [List.getElem?_eq_getElem (show k < h.parties.length by omega)]
     have := w4 k _ hk (List.getElem?_eq_getElem (by omega))
     simp only [Option.any_some]
     grind
 · intro w i p hp
   obtain ⟨hi, rfl⟩ := List.getElem?_eq_some_iff.1 hp
   have w1 := w i (Nat.zero_le _) hi
   simp only [parP, List.getElem?_eq_getElem hi, Option.any_some, Bool.and_eq_true, decide_eq_true_eq, Bool.or_eq_true, allGo_iff] at w1
   obtain ⟨⟨⟨w1, w2⟩, w3⟩, w4⟩ := w1
   refine ⟨w1, w2, fun h0 q hq => ?_, fun j q hj hq => ?_⟩
   · rw [hq] at w3
     simpa using w3.resolve_left (by omega)
   · have := w4 j (Nat.zero_le _) hj
     rw [hq] at this
     simp only [Option.any_some] at this
     grind
theorem par_at {h : House} {i : Nat} (hi : i < h.parties.length) : parP h i = (partyOk h.rules h.parties[i] h.now && decide (h.parties[i].turn < h.turn) && (decide (i = 0) || decide (h.parties[i - 1].id < h.parties[i].id)) &&
 allGo (fun k => h.parties[k]?.any fun q => !(q.turn == h.parties[i].turn) && !(decide (q.turn < h.parties[i].turn) && decide (q.since > h.parties[i].since)) && !(decide (q.turn > h.parties[i].turn) && decide (q.since < h.parties[i].since))) i 0) := by
 simp [parP, hi, List.getElem?_eq_getElem (show i - 1 < h.parties.length by omega)]
instance sParties_c : HC 113 (∀ (W : World) (cs : List Value) (h : House), HsR W cs h →Sp W [] 113 #[.agg cs.toArray] (RV (.bool (partiesOk h)))) := by
 refine ⟨fun W cs h hh => ?_⟩
 have hh1 := hh; obtain ⟨a1, c1, a2, c2, a3, c3, a4, c4, a5, c5, rfl, h1, h2, h3, h4, h5, h6, h7, h8, h9, h10⟩ := hh
 have hl := h7.len; rw [partiesOk_go]
 refine gENT (vs := [_]) Tryz.func113 ?_
 repeat' first | refine ST ?_ | intro _ | apply And.intro
 refine gFOR 3 h.parties.length (fun k => allGo (parP h) h.parties.length 0 = allGo (parP h) h.parties.length k) rfl fun k hk hv => ?_
 repeat' first | refine ST ?_ | intro _ | apply And.intro
 iterate 3 (· rw [hv, allGo_lt ‹k < _›, par_at ‹k < _›]; grind)
 · have hkl : k < h.parties.length := ‹_›
   refine gFOR 5 k (fun j => allGo (fun k9 => h.parties[k9]?.any fun q => !(q.turn == h.parties[k].turn) && !(decide (q.turn < h.parties[k].turn) && decide (q.since > h.parties[k].since)) && !(decide (q.turn > h.parties[k].turn) && decide (q.since < h.parties[k].since))) k 0 = allGo (fun k9 => h.parties[k9]?.any fun q => !(q.turn == h.parties[k].turn) && !(decide (q.turn < h.parties[k].turn) && decide (q.since > h.parties[k].since)) && !(decide (q.turn > h.parties[k].turn) && decide (q.since < h.parties[k].since))) k j) rfl fun j hj hv2 => ?_
   repeat' first | refine ST ?_ | intro _ | apply And.intro
   all_goals first | (rw [hv, allGo_lt hkl, par_at hkl, hv2, allGo_lt ‹j < k›, List.getElem?_eq_getElem (show j < h.parties.length by omega)]; simp only [Option.any_some]; grind) | (rw [hv2, allGo_lt ‹j < k›, List.getElem?_eq_getElem (show j < h.parties.length by omega)]; simp only [Option.any_some]; grind) | (rw [hv, allGo_lt hkl, par_at hkl, hv2, allGo_ge ‹¬ j < k›]; grind)
 · have hkl : k < h.parties.length := ‹_›
   refine gFOR 5 k (fun j => allGo (fun k9 => h.parties[k9]?.any fun q => !(q.turn == h.parties[k].turn) && !(decide (q.turn < h.parties[k].turn) && decide (q.since > h.parties[k].since)) && !(decide (q.turn > h.parties[k].turn) && decide (q.since < h.parties[k].since))) k 0 = allGo (fun k9 => h.parties[k9]?.any fun q => !(q.turn == h.parties[k].turn) && !(decide (q.turn < h.parties[k].turn) && decide (q.since > h.parties[k].since)) && !(decide (q.turn > h.parties[k].turn) && decide (q.since < h.parties[k].since))) k j) rfl fun j hj hv2 => ?_
   repeat' first | refine ST ?_ | intro _ | apply And.intro
   all_goals first | (rw [hv, allGo_lt hkl, par_at hkl, hv2, allGo_lt ‹j < k›, List.getElem?_eq_getElem (show j < h.parties.length by omega)]; simp only [Option.any_some]; grind) | (rw [hv2, allGo_lt ‹j < k›, List.getElem?_eq_getElem (show j < h.parties.length by omega)]; simp only [Option.any_some]; grind) | (rw [hv, allGo_lt hkl, par_at hkl, hv2, allGo_ge ‹¬ j < k›]; grind)
 · rw [hv, allGo_ge ‹_›]
def todP (h : House) (i : Nat) : Bool := h.todo[i]?.any fun x => inB x 0 (wr (h.cabins.length - 1)) && !((h.todo.take i).any fun e => e == x)
def jobP (h : House) (i : Nat) : Bool := h.jobs[i]?.any fun x => inB x (-1) (wr (h.cabins.length - 1))
theorem jobsOk_go (h : House) : jobsOk h = (allGo (todP h) h.todo.length 0 && allGo (jobP h) h.jobs.length 0 && ((h.jobs.length : Int) == h.rules.crew)) := by
 rw [Bool.eq_iff_iff]
 have h0 : jobsOk h = true ↔ JobsP h := by simp [jobsOk]
 rw [h0]
 simp only [JobsP, Bool.and_eq_true, allGo_iff, beq_iff_eq, and_assoc]
 have e1 : (∀ (i : Nat) (x : Int), h.todo[i]? = some x → inB x 0 (wr (h.cabins.length - 1)) = true ∧ ∀ (j : Nat) (y : Int), j < i → h.todo[j]? = some y → y ≠ x) ↔ ∀ j, 0 ≤ j → j < h.todo.length → todP h j = true := by
  constructor
  · intro w j _ hj
    obtain ⟨w1, w2⟩ := w j _ (List.getElem?_eq_getElem hj)
    simp only [todP, List.getElem?_eq_getElem hj, Option.any_some, w1, Bool.true_and, Bool.not_eq_true', List.any_eq_false, beq_iff_eq]
    intro y hy
    obtain ⟨k, hk, rfl⟩ := List.mem_iff_getElem.1 hy
    rw [List.length_take] at hk
    rw [List.getElem_take]
    exact w2 k _ (by omega) (List.getElem?_eq_getElem (by omega))
  · intro w i x hx
    obtain ⟨hi, rfl⟩ := List.getElem?_eq_some_iff.1 hx
    have w1 := w i (Nat.zero_le _) hi
    simp only [todP, List.getElem?_eq_getElem hi, Option.any_some, Bool.and_eq_true, Bool.not_eq_true', List.any_eq_false, beq_iff_eq] at w1
    refine ⟨w1.1, fun j y hj hy => w1.2 y ?_⟩
    obtain ⟨hj2, rfl⟩ := List.getElem?_eq_some_iff.1 hy
    exact List.mem_iff_getElem.2 ⟨j, by rw [List.length_take]; omega, by rw [List.getElem_take]⟩
 have e2 : (∀ x ∈ h.jobs, inB x (-1) (wr (h.cabins.length - 1)) = true) ↔ ∀ j, 0 ≤ j → j < h.jobs.length → jobP h j = true := by
  constructor
  · intro w j _ hj
    simp only [jobP, List.getElem?_eq_getElem hj, Option.any_some]
    exact w _ (List.getElem_mem hj)
  · intro w x hx
    obtain ⟨j, hj, rfl⟩ := List.mem_iff_getElem.1 hx
    simpa only [jobP, List.getElem?_eq_getElem hj, Option.any_some] using w j (Nat.zero_le _) hj
 rw [e1, e2]
theorem tod_at {h : House} {i : Nat} (hi : i < h.todo.length) : todP h i = (inB h.todo[i] 0 (wr (h.cabins.length - 1)) && !((h.todo.take i).any fun e => e == h.todo[i])) := by simp [todP, hi]
theorem job_at {h : House} {i : Nat} (hi : i < h.jobs.length) : jobP h i = inB h.jobs[i] (-1) (wr (h.cabins.length - 1)) := by simp [jobP, hi]
instance sJobs_c : HC 114 (∀ (W : World) (cs : List Value) (h : House), HsR W cs h →Sp W [] 114 #[.agg cs.toArray] (RV (.bool (jobsOk h)))) := by
 refine ⟨fun W cs h hh => ?_⟩
 have hh1 := hh; obtain ⟨a1, c1, a2, c2, a3, c3, a4, c4, a5, c5, rfl, h1, h2, h3, h4, h5, h6, h7, h8, h9, h10⟩ := hh
 have hl := h9.len; have hl2 := h10.len; rw [jobsOk_go]
 refine gENT (vs := [_]) Tryz.func114 ?_
 repeat' first | refine ST ?_ | intro _ | apply And.intro
 refine gFOR 3 h.todo.length (fun k => allGo (todP h) h.todo.length 0 = allGo (todP h) h.todo.length k) rfl fun k hk hv => ?_
 repeat' first | refine ST ?_ | intro _ | apply And.intro
 all_goals first | (rw [hv, allGo_lt ‹k < _›, tod_at ‹k < _›]; grind) | skip
 rw [hv, allGo_ge ‹_›]
 refine gFOR 4 h.jobs.length (fun k => allGo (jobP h) h.jobs.length 0 = allGo (jobP h) h.jobs.length k) rfl fun k2 hk2 hv2 => ?_
 repeat' first | refine ST ?_ | intro _ | apply And.intro
 all_goals first | (rw [hv2, allGo_lt ‹k2 < _›, job_at ‹k2 < _›]; grind) | (rw [hv2, allGo_ge ‹_›]; grind)
noncomputable def cabP (h : House) (i : Nat) : Bool := h.cabins[i]?.any fun c => decide (h.rules.seats[i]? = some c.seats.total) && agrees h.rules c h.parties i h.now && !decide (countGo h.parties i 0 > h.rules.room)
theorem houseOk_go (h : House) : houseOk h = (rulesOk h.rules && inB h.now 0 1000000 && inB h.turn 1 1000001 && decide (h.parties.length ≤ 40) && decide (h.cabins.length = h.rules.seats.length) && partiesOk h && jobsOk h && allGo (cabP h) h.cabins.length 0) := by
 rw [Bool.eq_iff_iff, show houseOk h = true ↔ HouseP h from ⟨houseP_of, houseOk_t⟩]
 have e1 : (∀ (k : Nat) (c : Cabin), h.cabins[k]? = some c → h.rules.seats[k]? = some c.seats.total ∧ agrees h.rules c h.parties k h.now = true ∧ countGo h.parties k 0 ≤ h.rules.room) ↔ ∀ j, 0 ≤ j → j < h.cabins.length → cabP h j = true := by
  constructor
  · intro w j _ hj
    obtain ⟨w1, w2, w3⟩ := w j _ (List.getElem?_eq_getElem hj)
    simp only [cabP, List.getElem?_eq_getElem hj, Option.any_some, w1, w2, decide_true, Bool.true_and, Bool.not_eq_true', decide_eq_false_iff_not]
    omega
  · intro w i c hc
    obtain ⟨hi, rfl⟩ := List.getElem?_eq_some_iff.1 hc
    have w1 := w i (Nat.zero_le _) hi
    simp only [cabP, List.getElem?_eq_getElem hi, Option.any_some, Bool.and_eq_true, decide_eq_true_eq, Bool.not_eq_true', decide_eq_false_iff_not] at w1
    exact ⟨w1.1.1, w1.1.2, by omega⟩
 have h0 : partiesOk h = true ↔ PartiesP h := by simp [partiesOk]
 have h2 : jobsOk h = true ↔ JobsP h := by simp [jobsOk]
 simp only [HouseP, Bool.and_eq_true, decide_eq_true_eq, allGo_iff, e1, h0, h2, and_assoc]
theorem cab_at {h : House} {i : Nat} (hi : i < h.cabins.length) (hs : i < h.rules.seats.length) : cabP h i = (decide (h.rules.seats[i] = h.cabins[i].seats.total) && agrees h.rules h.cabins[i] h.parties i h.now && !decide (countGo h.parties i 0 > h.rules.room)) := by simp [cabP, hi, hs]
instance sHouseOk_c : HC 34 (∀ (W : World) (cs : List Value) (h : House), HsR W cs h → (∀ c ∈ h.cabins, c.wheel.spoke.flatten.length ≤ 1048576) →Sp W [] 34 #[.agg cs.toArray] (RV (.bool (houseOk h)))) := by
 refine ⟨fun W cs h hh hb => ?_⟩
 have hh1 := hh; obtain ⟨a1, c1, a2, c2, a3, c3, a4, c4, a5, c5, rfl, h1, h2, h3, h4, h5, h6, h7, h8, h9, h10⟩ := hh
 have hl := h8.len; have hl2 := h7.len; have hl3 := h6.len; rw [houseOk_go]
 refine gENT (vs := [_]) Tryz.func34 ?_
 repeat' first | refine ST ?_ | intro _ | apply And.intro
 all_goals try (grind; done)
 have hb' : ∀ (k : Nat) (h9 : k < h.cabins.length), (h.cabins[k]).wheel.spoke.flatten.length ≤ 1048576 := fun k h9 => hb _ (List.getElem_mem h9)
 refine gFOR 3 h.cabins.length (fun k => allGo (cabP h) h.cabins.length 0 = allGo (cabP h) h.cabins.length k) rfl fun k hk hv => ?_
 repeat' first | refine ST ?_ | intro _ | apply And.intro
 all_goals first | (rw [hv, allGo_lt ‹k < _›, cab_at ‹k < _› (by omega)]; grind) | (rw [hv, allGo_ge ‹_›]; grind)
instance : ElN Tryz.prog 199 (sl 166 (flat 2 pinE pinH)) := inferInstanceAs (ElN Tryz.prog 199 (sl 166 pinL))
instance sSeatsDrop_c : HC 343 (∀ (W : World) (l : Ledger) (n : Int),Sp W [] 343 #[.agg (ledgerE l).toArray, vi n] (RT2 (RV (.agg (ledgerE (lDrop l n)).toArray)) RBo)) := by
 refine ⟨fun W l n => gENT (vs := [_, _]) Tryz.func343 ?_⟩
 repeat' first | refine ST ?_ | intro _ | apply And.intro
 all_goals first | trivial | (rw [turn_drop]; rfl)
instance sSeatsUntie_c : HC 345 (∀ (W : World) (l : Ledger) (n : Int),Sp W [] 345 #[.agg (ledgerE l).toArray, vi n] (RT2 (RV (.agg (ledgerE (lUntie l n)).toArray)) RBo)) := by
 refine ⟨fun W l n => gENT (vs := [_, _]) Tryz.func345 ?_⟩
 repeat' first | refine ST ?_ | intro _ | apply And.intro
 all_goals first | trivial | (rw [turn_untie]; rfl)
instance sPartyAt_c : HC 50 (∀ (W : World) (cs : List Value) (h : House) (id : Int), HsR W cs h →Sp W [] 50 #[.agg cs.toArray, vi id] (RV (vi (atId h.parties id)))) := by
 refine ⟨fun W cs h id hh => ?_⟩
 obtain ⟨a1, c1, a2, c2, a3, c3, a4, c4, a5, c5, rfl, h1, h2, h3, h4, h5, h6, h7, h8, h9, h10⟩ := hh
 refine gENT (vs := [_, _]) Tryz.func50 ?_
 repeat' first | refine ST ?_ | intro _ | apply And.intro
 all_goals rfl
instance sPartyCut_c : HC 344 (∀ (W : World) (list : List Party) (v : Value) (id : Int), Rs partyL W v list → list.length ≤ 1048576 →Sp W [] 344 #[v, vi id] (RO 91 partyL (partyCut list id))) := by
 refine ⟨fun W list v id ⟨a, c, e, hc, hr⟩ hb => ?_⟩
 subst e; have hl := hr.len; have hat := atId_lt list id
 refine gENT (vs := [_, _]) Tryz.func344 ?_
 repeat' first | refine ST ?_ | intro _ | apply And.intro
 · rw [partyCut_no ‹_›]; rfl
 all_goals (rw [partyCut_at ‹_›, wrap_of (by omega) (by omega), Int.toNat_add (by omega) (by omega)]; simp [cutAt])
instance sl5Copy_c : HC 120 (∀ (W : World) (cs : List Value) (r : Rules), RulesR W cs r → r.seats.length ≤ 1048576 →Sp W [] 120 #[.agg cs.toArray] (RRu 3 r)) := by
 refine ⟨fun W cs r ⟨a, c, e, hc, hr⟩ hb => ?_⟩
 subst e
 refine gENT (vs := [_]) Tryz.func120 ?_
 repeat' first | refine ST ?_ | intro _ | apply And.intro
 all_goals rfl
theorem insL_go {α : Type} {lt : α → α → Bool} {list : List α} {p : α} {k : Nat} (hv : insL lt list p = list.take k ++ insL lt (list.drop k) p) (h : k < list.length) (hl : lt list[k] p = true) : insL lt list p = list.take (k + 1) ++ insL lt (list.drop (k + 1)) p := by
 grind [insL, List.drop_eq_getElem_cons, List.take_append_getElem]
theorem insL_at {α : Type} {lt : α → α → Bool} {list : List α} {p : α} {k : Nat} (hv : insL lt list p = list.take k ++ insL lt (list.drop k) p) (h : ∀ h : k < list.length, lt list[k] p = false) : list.take k ++ [p] ++ list.drop k = insL lt list p := by
 by_cases h1 : k < list.length
 · have h2 := h h1
   grind [insL, List.drop_eq_getElem_cons]
 · rw [hv, List.drop_eq_nil_of_le (by omega)]; simp [insL]
instance sPartyPut_c : HC 244 (∀ (W : World) (list : List Party) (v : Value) (p : Party), Rs partyL W v list → list.length ≤ 1048576 →Sp W [] 244 #[v, .agg (partyE p).toArray] (RO 91 partyL (partyPut list p))) := by
 refine ⟨fun W list v p ⟨a, c, e, hc, hr⟩ hb => ?_⟩
 subst e; have hl := hr.len; have hat := atId_lt list p.id
 refine gENT (vs := [_, _]) Tryz.func244 ?_
 repeat' first | refine ST ?_ | intro _ | apply And.intro
 · rw [partyPut_set ‹_›]; simp
 refine gFOR 5 list.length (fun k => insL idLess list p = list.take k ++ insL idLess (list.drop k) p) rfl fun k hk hv => ?_
 repeat' first | refine ST ?_ | intro _ | apply And.intro
 all_goals first | exact insL_go hv ‹_› (by simp only [idLess, decide_eq_true_eq]; omega) | (rw [partyPut_ins (by omega)]; exact insL_at hv (fun h => by simp only [idLess, decide_eq_false_iff_not]; omega))
instance sPinsDue_c : HC 324 (∀ (W : World) (w : Wheel) (v : Value) (now : Int), Rs (sl 166 pinL) W v w.spoke → w.spoke.flatten.length ≤ 1048576 →Sp W [] 324 #[.agg #[v], vi now] (RO 166 pinL (dueGo w now))) := by
 refine ⟨fun W w v now hv0 hb => ?_⟩
 have hv1 := hv0; obtain ⟨a, c, rfl, hc, hr⟩ := hv0; have hpl := pinsOf_le w
 refine gENT (vs := [_, _]) Tryz.func324 ?_
 repeat' first | refine ST ?_ | intro _ | apply And.intro
 refine gFORO 7 (pinsOf w).length 5 (fun _ : Unit => []) (fun k _ xs => xs.length ≤ k ∧ dueGo w now = xs ++ dueL now ((pinsOf w).drop k)) () (h0 := ⟨by simp, rfl⟩) (body := fun k _ a c9 xs hk ⟨hl, hv⟩ => ?_)
 repeat' first | refine ST ?_ | intro _ | apply And.intro
 all_goals first | exact LEN | (rw [hv, List.drop_eq_getElem_cons (by omega), dueL_cons, if_pos (by omega)]; simp) | (rw [hv, List.drop_eq_getElem_cons (by omega), dueL_cons, if_neg (by omega)]) | (rw [hv, List.drop_eq_nil_of_le (by omega)]; simp [dueL])
instance s15Due_c : HC 241 (∀ (W : World) (cs : List Value) (h : House) (cabin : Int), HsR W cs h → HouseSz h → 0 ≤ cabin → cabin < (h.cabins.length : Int) →Sp W [] 241 #[.agg cs.toArray, vi cabin] (RO 3 intL (dueIds h cabin))) := by
 refine ⟨fun W cs h cabin hh hsz hc0 hc1 => ?_⟩
 obtain ⟨a1, c1, a2, c2, a3, c3, a4, c4, a5, c5, rfl, h1, h2, h3, h4, h5, h6, h7, h8, h9, h10⟩ := hh
 have hs9 := hsz.2.2.2.2.2
 have hb' : ∀ (k : Nat) (h9 : k < h.cabins.length), (h.cabins[k]).wheel.spoke.flatten.length ≤ 1048576 := fun k h9 => Nat.le_trans (hs9 _ (List.getElem_mem h9)).2.2 (by decide)
 have hx : h.cabins[cabin.toNat]? = some (h.cabins[cabin.toNat]'(by omega)) := List.getElem?_eq_getElem (by omega)
 have hpl := dueGo_len (h.cabins[cabin.toNat]'(by omega)).wheel h.now
 refine gENT (vs := [_, _]) Tryz.func241 ?_
 repeat' first | refine ST ?_ | intro _ | apply And.intro
 refine gFORO 7 (dueGo (h.cabins[cabin.toNat]'(by omega)).wheel h.now).length 5 (fun _ : Unit => []) (fun k _ xs => xs.length ≤ k ∧ dueIds h cabin = xs ++ ((dueGo (h.cabins[cabin.toNat]'(by omega)).wheel h.now).drop k).map (·.id)) () (h0 := ⟨by simp, by rw [dueIds_of hx]; rfl⟩) (body := fun k _ a c9 xs hk ⟨hl, hv⟩ => ?_)
 repeat' first | refine ST ?_ | intro _ | apply And.intro
 all_goals first | exact LEN | (rw [hv, List.drop_eq_getElem_cons (by omega), List.map_cons]; simp only [List.append_assoc, List.cons_append, List.nil_append]) | (rw [hv, List.drop_eq_nil_of_le (by omega)]; simp)
instance sl9Copy_c : HC 318 (∀ (W : World) (w : Wheel) (v : Value), Rs (sl 166 pinL) W v w.spoke → w.spoke.flatten.length ≤ 1048576 → w.spoke.length ≤ 1048576 →Sp W [] 318 #[.agg #[v]] (RWh 199 166 w)) := by
 refine ⟨fun W w v hv0 hb hn => ?_⟩
 obtain ⟨a, c, rfl, hc, hr⟩ := hv0; have hl := hr.len
 refine gENT (vs := [_]) Tryz.func318 ?_
 repeat' first | refine ST ?_ | intro _ | apply And.intro
 refine gNILN 199 (sl 166 pinL) ?_
 refine gFORG 4 w.spoke.length (fun _ => []) [(2, fun q : HH × List (List Pin) => [.slice q.1.1 q.2.length q.1.2])] (fun q => [slA 199 (sl 166 pinL) (.slice q.1.1 q.2.length q.1.2) q.2]) (fun k q => q.2 = w.spoke.take k) ((none, 0), []) (h0 := rfl) (body := fun k q hk hv => ?_)
 have hql : q.2.length = k := by rw [hv, List.length_take]; omega
 by_cases hkl : k < w.spoke.length
 · have hf := flat_mem (List.getElem?_eq_getElem hkl)
   repeat' first | refine ST ?_ | intro _ | apply And.intro
   all_goals first | (exfalso; omega) | refine gGBACK ((_, _), _) (by omega) (h := ?_)
   all_goals (rw [hv, ← List.take_append_getElem hkl]; rfl)
 · repeat' first | refine ST ?_ | intro _ | apply And.intro
   all_goals first | (exfalso; omega) | (rw [hv, List.take_of_length_le (by omega)])
instance sl10Copy_c : HC 229 (∀ (W : World) (cs : List Value) (x : Cabin), CabinR 166 W cs x → CabinSz x →Sp W [] 229 #[.agg cs.toArray] (RCa 159 199 166 x)) := by
 refine ⟨fun W cs x hx hs => ?_⟩
 obtain ⟨hs1, hs2, hs3⟩ := hs; obtain ⟨a1, c1, a2, c2, rfl, h1, h2, h3, h4⟩ := hx
 refine gENT (vs := [_]) Tryz.func229 ?_
 repeat' first | refine ST ?_ | intro _ | apply And.intro
 all_goals rfl
end SX
end Go.Proofs.YtejojcoaohlfbaaGreat
