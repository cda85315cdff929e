/- Texts of this claim, put together by program. -/
import Derived.Test.YthnbaikmbgaddaaGreatA7
import Derived.Test.YthnbaikmbgaddaaGreatMdli
/- Small ones; ledgers; parties that fail. -/
namespace Go.Proofs.YthnbaikmbgaddaaGreat
namespace SX
open Go Go.RowKit
set_option linter.unusedVariables false
set_option linter.unusedSimpArgs false
set_option maxRecDepth 10000
set_option maxHeartbeats 1000000
attribute [local irreducible] CD DN OPL AT QL QT CND RETG BKP HL HT HO slA slHo slP ptC pull pulls
instance l1Has_c : HC 151 (∀ (W : World) (list : List Int) (v : Value) (x : Int), Rs intL W v list →Sp W [] 151 #[v, vi x] (RV (.bool (list.any (fun e : Int => e == x))))) := by
 refine ⟨fun W list v x ⟨a, c, e, hc, hr⟩ => ?_⟩
 subst e; have hl := hr.len
 refine gENT (vs := [_, _]) Tryz.func151 ?_
 repeat' first | refine ST ?_ | intro _ | apply And.intro
 refine gFOR 5 list.length (fun k => list.any (fun e : Int => e == x) = (list.drop k).any (fun e : Int => e == x)) rfl fun k hk hv => ?_
 repeat' first | refine ST ?_ | intro _ | apply And.intro
 all_goals grind [List.drop_eq_getElem_cons]
instance s11At_c : HC 154 (∀ (W : World) (list : List Party) (v : Value) (id : Int), Rs partyL W v list →Sp W [] 154 #[v, vi id] (RV (vi (atId list id)))) := by
 refine ⟨fun W list v id ⟨a, c, e, hc, hr⟩ => ?_⟩
 subst e; have hl := hr.len
 refine gENT (vs := [_, _]) Tryz.func154 ?_
 repeat' first | refine ST ?_ | intro _ | apply And.intro
 refine gFOR 5 list.length (fun k => atId list id = idxF (fun e : Party => e.id == id) (list.drop k) k) rfl fun k hk hv => ?_
 repeat' first | refine ST ?_ | intro _ | apply And.intro
 all_goals grind [idxF, List.drop_eq_getElem_cons]
instance sResting_c : HC 99 (∀ (W : World) (p : Party) (now : Int),Sp W [] 99 #[.agg (partyE p).toArray, vi now] (RV (.bool (restingB p now)))) := by
 refine ⟨fun W p now => gENT (vs := [_, _]) Tryz.func99 ?_⟩
 repeat' first | refine ST ?_ | intro _ | apply And.intro
 all_goals grind [restingB]
instance sFailed_c : HC 328 (∀ (W : World) (cs : List Value) (r : Rules) (p : Party) (now : Int), RulesR W cs r →Sp W [] 328 #[.agg cs.toArray, .agg (partyE p).toArray, vi now] (RV (.tuple #[.agg (partyE (failedX r p now)).toArray, .bool (failedB r p now)]))) := by
 refine ⟨fun W cs r p now hr => gENT (vs := [_, _, _]) Tryz.func328 ?_⟩
 obtain ⟨a, c, rfl, hc, h⟩ := id hr
 repeat' first | refine ST ?_ | intro _ | apply And.intro
 all_goals simp_all [failedX, failedP, failedB, partyZ, partyE]
instance sl8Turn_c : HC 270 (∀ (W : World) (l : Ledger) (n df dh ds dt : Int),Sp W [] 270 #[.agg (ledgerE l).toArray, vi n, vi df, vi dh, vi ds, vi dt] (RV (.tuple #[.agg (ledgerE (movedL l n (wr (df * n)) (wr (dh * n)) (wr (ds * n)) (wr (dt * n)))).toArray, .bool (movedB l n (wr (df * n)) (wr (dh * n)) (wr (ds * n)) (wr (dt * n)))]))) := by
 refine ⟨fun W l n df dh ds dt => gENT (vs := [_, _, _, _, _, _]) Tryz.func270 ?_⟩
 repeat' first | refine ST ?_ | intro _ | apply And.intro
 all_goals simp_all [movedL, movedB, mvL, ledgerE]
end SX
end Go.Proofs.YthnbaikmbgaddaaGreat
/- Wheels that are right. -/
namespace Go.Proofs.YthnbaikmbgaddaaGreat
namespace SX
open Go Go.RowKit
set_option linter.unusedVariables false
set_option linter.unusedSimpArgs false
set_option maxRecDepth 10000
set_option maxHeartbeats 1000000
attribute [local irreducible] CD DN OPL AT QL QT CND RETG BKP HL HT HO slA slHo slP ptC pull pulls
def allGo (p : Nat → Bool) (n i : Nat) : Bool := if i < n then p i && allGo p n (i + 1) else true
termination_by n - i
theorem allGo_lt {p : Nat → Bool} {n i : Nat} (h : i < n) : allGo p n i = (p i && allGo p n (i + 1)) := by rw [allGo, if_pos h]
theorem allGo_ge {p : Nat → Bool} {n i : Nat} (h : ¬ i < n) : allGo p n i = true := by rw [allGo, if_neg h]
theorem allGo_iff {p : Nat → Bool} {n : Nat} : ∀ {i : Nat}, allGo p n i = true ↔ ∀ j, i ≤ j → j < n → p j = true := by
  intro i
  induction hn : n - i generalizing i with
  | zero => rw [allGo_ge (by omega)]; simp; intro j h1 h2; omega
  | succ m ih =>
    rw [allGo_lt (by omega), Bool.and_eq_true, ih (by omega)]
    constructor
    · rintro ⟨h1, h2⟩ j hj hjn
      by_cases he : j = i
      · subst he; exact h1
      · exact h2 j (by omega) hjn
    · intro h
      exact ⟨h i (Nat.le_refl _) (by omega), fun j hj hjn => h j (by omega) hjn⟩
def pinP (l : List Pin) (i : Nat) : Bool := l[i]?.any fun x => inB x.at' 1 1000008 && inB x.id 1 999 && allGo (fun k => l[k]?.any fun y => !(y.id == x.id)) i 0
def spkP (ss : List (List Pin)) (i : Nat) : Bool := ss[i]?.any fun l => allGo (fun k => l[k]?.any fun x => Int.tmod x.at' 9 == (i : Int) && (decide (k = 0) || l[k - 1]?.any fun y => pinLess y x)) l.length 0
theorem wheelOk_go (w : Wheel) : wheelOk w = (decide (w.spoke.length = 9) && decide (w.spoke.flatten.length ≤ 10) && allGo (pinP w.spoke.flatten) w.spoke.flatten.length 0 && allGo (spkP w.spoke) w.spoke.length 0) := by
  rw [Bool.eq_iff_iff, show wheelOk w = true ↔ WheelP w from ⟨wheelP_of, wheelOk_t⟩]
  simp only [Bool.and_eq_true, decide_eq_true_eq, WheelP, allGo_iff]
  have h1 : ((∀ p ∈ w.spoke.flatten, PinR p) ∧ (w.spoke.flatten.map (·.id)).Nodup) ↔ ∀ j, 0 ≤ j → j < w.spoke.flatten.length → pinP w.spoke.flatten j = true := by
    generalize w.spoke.flatten = l
    rw [List.Nodup, List.pairwise_iff_getElem]
    simp only [List.length_map, List.getElem_map]
    constructor
    · rintro ⟨h1, h2⟩ j _ hj
      have h3 := h1 _ (List.getElem_mem hj)
      simp only [pinP, List.getElem?_eq_getElem hj, Option.any_some, Bool.and_eq_true, h3.1, h3.2, true_and, allGo_iff]
      intro k _ hk
      rw [List.getElem?_eq_getElem (by omega)]
      simp [h2 k j (by omega) hj hk]
    · intro h
      refine ⟨fun p hp => ?_, fun i j hi hj hij => ?_⟩
      · obtain ⟨j, hj, rfl⟩ := List.mem_iff_getElem.1 hp
        have := h j (Nat.zero_le _) hj
        simp only [pinP, List.getElem?_eq_getElem hj, Option.any_some, Bool.and_eq_true] at this
        exact ⟨this.1.1, this.1.2⟩
      · have := h j (Nat.zero_le _) hj
        simp only [pinP, List.getElem?_eq_getElem hj, Option.any_some, Bool.and_eq_true, allGo_iff] at this
        have := this.2 i (Nat.zero_le _) hij
        rw [List.getElem?_eq_getElem hi] at this
        simpa using this
  have h2 : (∀ (i : Nat) (l : List Pin), w.spoke[i]? = some l → SpokeP i l) ↔ ∀ j, 0 ≤ j → j < w.spoke.length → spkP w.spoke j = true := by
    have h3 : ∀ (i : Nat) (l : List Pin), SpokeP i l ↔ allGo (fun k => l[k]?.any fun x => Int.tmod x.at' 9 == (i : Int) && (decide (k = 0) || l[k - 1]?.any fun y => pinLess y x)) l.length 0 = true := by
      intro i l
      rw [allGo_iff]
      constructor
      · intro h k _ hk
        have h4 := h k _ (List.getElem?_eq_getElem hk)
        rw [List.getElem?_eq_getElem hk, List.getElem?_eq_getElem (show k - 1 < l.length by omega)]
        simp only [Option.any_some, Bool.and_eq_true, beq_iff_eq, h4.1, true_and, Bool.or_eq_true, decide_eq_true_eq]
        by_cases h0 : k = 0
        · exact .inl h0
        · exact .inr (h4.2 (by omega) _ (List.getElem?_eq_getElem (by omega)))
      · intro h m x hx
        obtain ⟨hm, rfl⟩ := List.getElem?_eq_some_iff.1 hx
        have h4 := h m (Nat.zero_le _) hm
        rw [List.getElem?_eq_getElem hm, List.getElem?_eq_getElem (show m - 1 < l.length by omega)] at h4
        simp only [Option.any_some, Bool.and_eq_true, beq_iff_eq, Bool.or_eq_true, decide_eq_true_eq] at h4
        refine ⟨h4.1, fun h0 y hy => ?_⟩
        rw [List.getElem?_eq_getElem (by omega)] at hy
        injection hy with hy
        subst hy
        exact h4.2.resolve_left (by omega)
    constructor
    · intro h j _ hj
      simp only [spkP, List.getElem?_eq_getElem hj, Option.any_some]
      exact (h3 j _).1 (h j _ (List.getElem?_eq_getElem hj))
    · intro h i l hl
      obtain ⟨hi, rfl⟩ := List.getElem?_eq_some_iff.1 hl
      have := h i (Nat.zero_le _) hi
      simp only [spkP, List.getElem?_eq_getElem hi, Option.any_some] at this
      exact (h3 i _).2 this
  rw [← h1, ← h2]
  simp only [and_assoc]
theorem pin_at {l : List Pin} {k : Nat} (h : k < l.length) : pinP l k = (inB l[k].at' 1 1000008 && inB l[k].id 1 999 && allGo (fun j => l[j]?.any fun y => !(y.id == l[k].id)) k 0) := by simp [pinP, h]
theorem spk_at {ss : List (List Pin)} {i : Nat} (h : i < ss.length) : spkP ss i = allGo (fun k => ss[i][k]?.any fun x => Int.tmod x.at' 9 == (i : Int) && (decide (k = 0) || ss[i][k - 1]?.any fun y => pinLess y x)) ss[i].length 0 := by simp [spkP, h]
instance sWheelOk_c : HC 241 (∀ (W : World) (w : Wheel) (v : Value), Rs (sl 167 pinL) W v w.spoke → w.spoke.flatten.length ≤ 1000000000 →Sp W [] 241 #[.agg #[v]] (RV (.bool (wheelOk w)))) := by
 refine ⟨fun W w v hv0 hb => ?_⟩
 have hv1 := hv0; obtain ⟨a, c, rfl, hc, hr⟩ := hv0; have hl := hr.len; rw [wheelOk_go]
 refine gENT (vs := [_]) Tryz.func241 ?_
 repeat' first | refine ST ?_ | intro _ | apply And.intro
 · grind
 · grind
 refine gISS (k := fun hs => ?_)
 refine gFOR 4 w.spoke.flatten.length (fun k => allGo (pinP w.spoke.flatten) w.spoke.flatten.length 0 = allGo (pinP w.spoke.flatten) w.spoke.flatten.length k) rfl fun k hk hv => ?_
 repeat' first | refine ST ?_ | intro _ | apply And.intro
 · rw [hv, allGo_lt ‹k < _›, pin_at ‹k < _›]; simp [*]
 · rw [hv, allGo_lt ‹k < _›, pin_at ‹k < _›]; simp [*]
 · have hkl : k < w.spoke.flatten.length := ‹_›
   refine gFOR 5 k (fun j => allGo (fun j => w.spoke.flatten[j]?.any fun y => !(y.id == w.spoke.flatten[k].id)) k 0 = allGo (fun j => w.spoke.flatten[j]?.any fun y => !(y.id == w.spoke.flatten[k].id)) k j) rfl fun j hj hv2 => ?_
   repeat' first | refine ST ?_ | intro _ | apply And.intro
   · rw [hv, allGo_lt hkl, pin_at hkl, hv2, allGo_lt ‹j < k›, List.getElem?_eq_getElem (show j < w.spoke.flatten.length by omega)]; simp [*]
   · rw [hv2, allGo_lt ‹j < k›, List.getElem?_eq_getElem (show j < w.spoke.flatten.length by omega)]; simp [*]
   · rw [hv, allGo_lt hkl, pin_at hkl, hv2, allGo_ge ‹_›]; simp [*]
 rw [hv, allGo_ge ‹_›]
 refine gFOR 6 w.spoke.length (fun k => allGo (spkP w.spoke) w.spoke.length 0 = allGo (spkP w.spoke) w.spoke.length k) rfl fun i hi hv3 => ?_
 repeat' first | refine ST ?_ | intro _ | apply And.intro
 · have hil : i < w.spoke.length := ‹_›
   refine gFOR 7 w.spoke[i].length (fun k => allGo (fun k => w.spoke[i][k]?.any fun x => Int.tmod x.at' 9 == (i : Int) && (decide (k = 0) || w.spoke[i][k - 1]?.any fun y => pinLess y x)) w.spoke[i].length 0 = allGo (fun k => w.spoke[i][k]?.any fun x => Int.tmod x.at' 9 == (i : Int) && (decide (k = 0) || w.spoke[i][k - 1]?.any fun y => pinLess y x)) w.spoke[i].length k) rfl fun j hj hv4 => ?_
   repeat' first | refine ST ?_ | intro _ | apply And.intro
   · rw [hv3, allGo_lt hil, spk_at hil, hv4, allGo_lt ‹j < _›, List.getElem?_eq_getElem ‹j < _›]; simp [*]
   · have hj0 : 0 < j := ‹_›
     rw [hv3, allGo_lt hil, spk_at hil, hv4, allGo_lt ‹j < _›, List.getElem?_eq_getElem ‹j < _›, List.getElem?_eq_getElem (show j - 1 < w.spoke[i].length by omega)]; simp [*]; omega
   · have hj0 : 0 < j := ‹_›
     rw [hv4, allGo_lt ‹j < _›, List.getElem?_eq_getElem ‹j < _›, List.getElem?_eq_getElem (show j - 1 < w.spoke[i].length by omega)]; simp [*]
   · have h6 := ‹Int.tmod _ 9 = _›
     have h7 : j = 0 := ‹_›
     rw [hv4, allGo_lt ‹j < _›, List.getElem?_eq_getElem ‹j < _›]
     simp only [Option.any_some, h6, decide_eq_true h7, beq_self_eq_true, Bool.true_or, Bool.and_self, Bool.true_and]
   · rw [hv3, allGo_lt hil, spk_at hil, hv4, allGo_ge ‹_›]; simp
 · rw [hv3, allGo_ge ‹_›]; grind
end SX
end Go.Proofs.YthnbaikmbgaddaaGreat
/- Pins in order; cabins; what a cabin says of its parties. -/
namespace Go.Proofs.YthnbaikmbgaddaaGreat
namespace SX
open Go Go.RowKit
set_option linter.unusedVariables false
set_option linter.unusedSimpArgs false
set_option maxRecDepth 10000
set_option maxHeartbeats 1000000
attribute [local irreducible] CD DN OPL AT QL QT CND RETG BKP HL HT HO slA slHo slP ptC pull pulls
theorem foldl_pIns_len : ∀ (l out : List Pin), (l.foldl pIns out).length = out.length + l.length
  | [], out => by simp
  | p :: l, out => by rw [List.foldl_cons, foldl_pIns_len l, pIns_len, List.length_cons]; omega
instance sPinsOf_c : HC 171 (∀ (W : World) (w : Wheel) (v : Value), Rs (sl 167 pinL) W v w.spoke → w.spoke.flatten.length ≤ 1048576 →Sp W [] 171 #[.agg #[v]] (RO 167 pinL (pinsOf w))) := by
 refine ⟨fun W w v hv0 hb => ?_⟩
 have hv1 := hv0; obtain ⟨a, c, rfl, hc, hr⟩ := hv0; have hl := hr.len
 refine gENT (vs := [_]) Tryz.func171 ?_
 repeat' first | refine ST ?_ | intro _ | apply And.intro
 · simp [pinsOf, *]
 · have hw : wheelOk w = true := ‹_›
   refine gISS (j := 1) (k := fun hs => ?_)
   refine gFORO 5 w.spoke.flatten.length 3 (fun _ : Unit => []) (fun k _ xs => xs = (w.spoke.flatten.take k).foldl pIns []) () (h0 := rfl) (body := fun k _ a c9 xs hk hv => ?_)
   have hxl : xs.length = k := by rw [hv, foldl_pIns_len, List.length_take, List.length_nil]; omega
   repeat' first | refine ST ?_ | intro _ | apply And.intro
   · rw [hv, ← List.take_append_getElem ‹k < _›, List.foldl_append]; rfl
   · rw [hv, List.take_of_length_le (by omega)]; simp [pinsOf, pinsSort, hw]
instance sCabinOk_c : HC 167 (∀ (W : World) (cs : List Value) (x : Cabin), CabinR 167 W cs x → x.wheel.spoke.flatten.length ≤ 1048576 →Sp W [] 167 #[.agg cs.toArray] (RV (.bool (cabinOk x)))) := by
 refine ⟨fun W cs x hx hb => ?_⟩
 have hx1 := hx; obtain ⟨a1, c1, a2, c2, rfl, h1, h2, h3, h4⟩ := hx
 refine gENT (vs := [_]) Tryz.func167 ?_
 repeat' first | refine ST ?_ | intro _ | apply And.intro
 all_goals simp [cabinOk, *]
instance sAgrees_c : HC 80 (∀ (W : World) (cr : List Value) (r : Rules) (cs : List Value) (x : Cabin) (list : List Party) (v : Value) (cabin now : Int), RulesR W cr r → CabinR 167 W cs x → Rs partyL W v list → x.wheel.spoke.flatten.length ≤ 1048576 → list.length ≤ 1000000 →Sp W [] 80 #[.agg cr.toArray, .agg cs.toArray, v, vi cabin, vi now] (RV (.bool (agrees r x list cabin now)))) := by
 refine ⟨fun W cr r cs x list v cabin now hrr hx ⟨a, c, e, hc, hr⟩ hb hb2 => ?_⟩
 subst e
 have hx1 := hx; obtain ⟨a1, c1, a2, c2, rfl, h1, h2, h3, h4⟩ := hx
 have hr1 := hrr; obtain ⟨a3, c3, rfl, h5, h6⟩ := hrr
 refine gENT (vs := [_, _, _, _, _]) Tryz.func80 ?_
 repeat' first | refine ST ?_ | intro _ | apply And.intro
 all_goals simp [agrees, *]
end SX
end Go.Proofs.YthnbaikmbgaddaaGreat
/- Parties, jobs, houses that are right. -/
namespace Go.Proofs.YthnbaikmbgaddaaGreat
namespace SX
open Go Go.RowKit
set_option linter.unusedVariables false
set_option linter.unusedSimpArgs false
set_option maxRecDepth 10000
set_option maxHeartbeats 1000000
attribute [local irreducible] CD DN OPL AT QL QT CND RETG BKP HL HT HO slA slHo slP ptC pull pulls
def parP (h : House) (i : Nat) : Bool := h.parties[i]?.any fun p => partyOk h.rules p h.now && decide (p.turn < h.turn) && (decide (i = 0) || h.parties[i - 1]?.any fun q => decide (q.id < p.id)) &&
  allGo (fun k => h.parties[k]?.any fun q => !(q.turn == p.turn) && !(decide (q.turn < p.turn) && decide (q.since > p.since)) && !(decide (q.turn > p.turn) && decide (q.since < p.since))) i 0
theorem partiesOk_go (h : House) : partiesOk h = allGo (parP h) h.parties.length 0 := by
  rw [Bool.eq_iff_iff, allGo_iff]
  have h0 : partiesOk h = true ↔ PartiesP h := by simp [partiesOk]
  rw [h0]
  constructor
  · intro w j _ hj
    obtain ⟨w1, w2, w3, w4⟩ := w j _ (List.getElem?_eq_getElem hj)
    simp only [parP, List.getElem?_eq_getElem hj, Option.any_some, Bool.and_eq_true, decide_eq_true_eq, Bool.or_eq_true, allGo_iff]
    refine ⟨⟨⟨w1, w2⟩, ?_⟩, fun k _ hk => ?_⟩
    · by_cases h0 : j = 0
      · exact .inl h0
      · rw [List.getElem?_eq_getElem (show j - 1 < h.parties.length by omega)]
        exact .inr (by simpa using w3 (by omega) _ (List.getElem?_eq_getElem (by omega)))
    · rw [List.getElem?_eq_getElem (show k < h.parties.length by omega)]
      have := w4 k _ hk (List.getElem?_eq_getElem (by omega))
      simp only [Option.any_some]
      grind
  · intro w i p hp
    obtain ⟨hi, rfl⟩ := List.getElem?_eq_some_iff.1 hp
    have w1 := w i (Nat.zero_le _) hi
    simp only [parP, List.getElem?_eq_getElem hi, Option.any_some, Bool.and_eq_true, decide_eq_true_eq, Bool.or_eq_true, allGo_iff] at w1
    obtain ⟨⟨⟨w1, w2⟩, w3⟩, w4⟩ := w1
    refine ⟨w1, w2, fun h0 q hq => ?_, fun j q hj hq => ?_⟩
    · rw [hq] at w3
      simpa using w3.resolve_left (by omega)
    · have := w4 j (Nat.zero_le _) hj
      rw [hq] at this
      simp only [Option.any_some] at this
      grind
theorem par_at {h : House} {i : Nat} (hi : i < h.parties.length) : parP h i = (partyOk h.rules h.parties[i] h.now && decide (h.parties[i].turn < h.turn) && (decide (i = 0) || decide (h.parties[i - 1].id < h.parties[i].id)) &&
    allGo (fun k => h.parties[k]?.any fun q => !(q.turn == h.parties[i].turn) && !(decide (q.turn < h.parties[i].turn) && decide (q.since > h.parties[i].since)) && !(decide (q.turn > h.parties[i].turn) && decide (q.since < h.parties[i].since))) i 0) := by
  simp [parP, hi, List.getElem?_eq_getElem (show i - 1 < h.parties.length by omega)]
instance sParties_c : HC 78 (∀ (W : World) (cs : List Value) (h : House), HsR W cs h →Sp W [] 78 #[.agg cs.toArray] (RV (.bool (partiesOk h)))) := by
 refine ⟨fun W cs h hh => ?_⟩
 have hh1 := hh; obtain ⟨a1, c1, a2, c2, a3, c3, a4, c4, a5, c5, rfl, h1, h2, h3, h4, h5, h6, h7, h8, h9, h10⟩ := hh
 have hl := h7.len; rw [partiesOk_go]
 refine gENT (vs := [_]) Tryz.func78 ?_
 repeat' first | refine ST ?_ | intro _ | apply And.intro
 refine gFOR 3 h.parties.length (fun k => allGo (parP h) h.parties.length 0 = allGo (parP h) h.parties.length k) rfl fun k hk hv => ?_
 repeat' first | refine ST ?_ | intro _ | apply And.intro
 iterate 3 (· rw [hv, allGo_lt ‹k < _›, par_at ‹k < _›]; grind)
 · have hkl : k < h.parties.length := ‹_›
   refine gFOR 5 k (fun j => allGo (fun k9 => h.parties[k9]?.any fun q => !(q.turn == h.parties[k].turn) && !(decide (q.turn < h.parties[k].turn) && decide (q.since > h.parties[k].since)) && !(decide (q.turn > h.parties[k].turn) && decide (q.since < h.parties[k].since))) k 0 = allGo (fun k9 => h.parties[k9]?.any fun q => !(q.turn == h.parties[k].turn) && !(decide (q.turn < h.parties[k].turn) && decide (q.since > h.parties[k].since)) && !(decide (q.turn > h.parties[k].turn) && decide (q.since < h.parties[k].since))) k j) rfl fun j hj hv2 => ?_
   repeat' first | refine ST ?_ | intro _ | apply And.intro
   all_goals first | (rw [hv, allGo_lt hkl, par_at hkl, hv2, allGo_lt ‹j < k›, List.getElem?_eq_getElem (show j < h.parties.length by omega)]; simp only [Option.any_some]; grind) | (rw [hv2, allGo_lt ‹j < k›, List.getElem?_eq_getElem (show j < h.parties.length by omega)]; simp only [Option.any_some]; grind) | (rw [hv, allGo_lt hkl, par_at hkl, hv2, allGo_ge ‹¬ j < k›]; grind)
 · have hkl : k < h.parties.length := ‹_›
   refine gFOR 5 k (fun j => allGo (fun k9 => h.parties[k9]?.any fun q => !(q.turn == h.parties[k].turn) && !(decide (q.turn < h.parties[k].turn) && decide (q.since > h.parties[k].since)) && !(decide (q.turn > h.parties[k].turn) && decide (q.since < h.parties[k].since))) k 0 = allGo (fun k9 => h.parties[k9]?.any fun q => !(q.turn == h.parties[k].turn) && !(decide (q.turn < h.parties[k].turn) && decide (q.since > h.parties[k].since)) && !(decide (q.turn > h.parties[k].turn) && decide (q.since < h.parties[k].since))) k j) rfl fun j hj hv2 => ?_
   repeat' first | refine ST ?_ | intro _ | apply And.intro
   all_goals first | (rw [hv, allGo_lt hkl, par_at hkl, hv2, allGo_lt ‹j < k›, List.getElem?_eq_getElem (show j < h.parties.length by omega)]; simp only [Option.any_some]; grind) | (rw [hv2, allGo_lt ‹j < k›, List.getElem?_eq_getElem (show j < h.parties.length by omega)]; simp only [Option.any_some]; grind) | (rw [hv, allGo_lt hkl, par_at hkl, hv2, allGo_ge ‹¬ j < k›]; grind)
 · rw [hv, allGo_ge ‹_›]
end SX
end Go.Proofs.YthnbaikmbgaddaaGreat
