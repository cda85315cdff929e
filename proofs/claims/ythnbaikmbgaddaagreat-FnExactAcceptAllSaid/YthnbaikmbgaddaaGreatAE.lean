/- Texts of this claim, put together by program. -/
import Derived.Test.YthnbaikmbgaddaaGreatA7
import Derived.Test.YthnbaikmbgaddaaGreatMdli
/- Small ones; ledgers; parties that fail. -/
namespace Go.Proofs.YthnbaikmbgaddaaGreat
namespace SX
open Go Go.RowKit
set_option linter.unusedVariables false
set_option linter.unusedSimpArgs false
set_option maxRecDepth 10000
set_option maxHeartbeats 1000000
attribute [local irreducible] CD DN OPL AT QL QT CND RETG BKP HL HT HO slA slHo slP ptC pull pulls
instance l1Has_c : HC 151 (∀ (W : World) (list : List Int) (v : Value) (x : Int), Rs intL W v list →Sp W [] 151 #[v, vi x] (RV (.bool (list.any (fun e : Int => e == x))))) := by
 refine ⟨fun W list v x ⟨a, c, e, hc, hr⟩ => ?_⟩
 subst e; have hl := hr.len
 refine gENT (vs := [_, _]) Tryz.func151 ?_
 repeat' first | refine ST ?_ | intro _ | apply And.intro
 refine gFOR 5 list.length (fun k => list.any (fun e : Int => e == x) = (list.drop k).any (fun e : Int => e == x)) rfl fun k hk hv => ?_
 repeat' first | refine ST ?_ | intro _ | apply And.intro
 all_goals grind [List.drop_eq_getElem_cons]
instance s11At_c : HC 154 (∀ (W : World) (list : List Party) (v : Value) (id : Int), Rs partyL W v list →Sp W [] 154 #[v, vi id] (RV (vi (atId list id)))) := by
 refine ⟨fun W list v id ⟨a, c, e, hc, hr⟩ => ?_⟩
 subst e; have hl := hr.len
 refine gENT (vs := [_, _]) Tryz.func154 ?_
 repeat' first | refine ST ?_ | intro _ | apply And.intro
 refine gFOR 5 list.length (fun k => atId list id = idxF (fun e : Party => e.id == id) (list.drop k) k) rfl fun k hk hv => ?_
 repeat' first | refine ST ?_ | intro _ | apply And.intro
 all_goals grind [idxF, List.drop_eq_getElem_cons]
instance sl8Turn_c : HC 270 (∀ (W : World) (l : Ledger) (n df dh ds dt : Int),Sp W [] 270 #[.agg (ledgerE l).toArray, vi n, vi df, vi dh, vi ds, vi dt] (RV (.tuple #[.agg (ledgerE (movedL l n (wr (df * n)) (wr (dh * n)) (wr (ds * n)) (wr (dt * n)))).toArray, .bool (movedB l n (wr (df * n)) (wr (dh * n)) (wr (ds * n)) (wr (dt * n)))]))) := by
 refine ⟨fun W l n df dh ds dt => gENT (vs := [_, _, _, _, _, _]) Tryz.func270 ?_⟩
 repeat' first | refine ST ?_ | intro _ | apply And.intro
 all_goals simp_all [movedL, movedB, mvL, ledgerE]
end SX
end Go.Proofs.YthnbaikmbgaddaaGreat
/- Wheels that are right. -/
namespace Go.Proofs.YthnbaikmbgaddaaGreat
namespace SX
open Go Go.RowKit
set_option linter.unusedVariables false
set_option linter.unusedSimpArgs false
set_option maxRecDepth 10000
set_option maxHeartbeats 1000000
attribute [local irreducible] CD DN OPL AT QL QT CND RETG BKP HL HT HO slA slHo slP ptC pull pulls
def allGo (p : Nat → Bool) (n i : Nat) : Bool := if i < n then p i && allGo p n (i + 1) else true
termination_by n - i
theorem allGo_lt {p : Nat → Bool} {n i : Nat} (h : i < n) : allGo p n i = (p i && allGo p n (i + 1)) := by rw [allGo, if_pos h]
theorem allGo_ge {p : Nat → Bool} {n i : Nat} (h : ¬ i < n) : allGo p n i = true := by rw [allGo, if_neg h]
theorem allGo_iff {p : Nat → Bool} {n : Nat} : ∀ {i : Nat}, allGo p n i = true ↔ ∀ j, i ≤ j → j < n → p j = true := by
  intro i
  induction hn : n - i generalizing i with
  | zero => rw [allGo_ge (by omega)]; simp; intro j h1 h2; omega
  | succ m ih =>
    rw [allGo_lt (by omega), Bool.and_eq_true, ih (by omega)]
    constructor
    · rintro ⟨h1, h2⟩ j hj hjn
      by_cases he : j = i
      · subst he; exact h1
      · exact h2 j (by omega) hjn
    · intro h
      exact ⟨h i (Nat.le_refl _) (by omega), fun j hj hjn => h j (by omega) hjn⟩
def pinP (l : List Pin) (i : Nat) : Bool := l[i]?.any fun x => inB x.at' 1 1000008 && inB x.id 1 999 && allGo (fun k => l[k]?.any fun y => !(y.id == x.id)) i 0
def spkP (ss : List (List Pin)) (i : Nat) : Bool := ss[i]?.any fun l => allGo (fun k => l[k]?.any fun x => Int.tmod x.at' 9 == (i : Int) && (decide (k = 0) || l[k - 1]?.any fun y => pinLess y x)) l.length 0
theorem wheelOk_go (w : Wheel) : wheelOk w = (decide (w.spoke.length = 9) && decide (w.spoke.flatten.length ≤ 10) && allGo (pinP w.spoke.flatten) w.spoke.flatten.length 0 && allGo (spkP w.spoke) w.spoke.length 0) := by
  rw [Bool.eq_iff_iff, show wheelOk w = true ↔ WheelP w from ⟨wheelP_of, wheelOk_t⟩]
  simp only [Bool.and_eq_true, decide_eq_true_eq, WheelP, allGo_iff]
  have h1 : ((∀ p ∈ w.spoke.flatten, PinR p) ∧ (w.spoke.flatten.map (·.id)).Nodup) ↔ ∀ j, 0 ≤ j → j < w.spoke.flatten.length → pinP w.spoke.flatten j = true := by
    generalize w.spoke.flatten = l
    rw [List.Nodup, List.pairwise_iff_getElem]
    simp only [List.length_map, List.getElem_map]
    constructor
    · rintro ⟨h1, h2⟩ j _ hj
      have h3 := h1 _ (List.getElem_mem hj)
      simp only [pinP, List.getElem?_eq_getElem hj, Option.any_some, Bool.and_eq_true, h3.1, h3.2, true_and, allGo_iff]
      intro k _ hk
      rw [List.getElem?_eq_getElem (by omega)]
      simp [h2 k j (by omega) hj hk]
    · intro h
      refine ⟨fun p hp => ?_, fun i j hi hj hij => ?_⟩
      · obtain ⟨j, hj, rfl⟩ := List.mem_iff_getElem.1 hp
        have := h j (Nat.zero_le _) hj
        simp only [pinP, List.getElem?_eq_getElem hj, Option.any_some, Bool.and_eq_true] at this
        exact ⟨this.1.1, this.1.2⟩
      · have := h j (Nat.zero_le _) hj
        simp only [pinP, List.getElem?_eq_getElem hj, Option.any_some, Bool.and_eq_true, allGo_iff] at this
        have := this.2 i (Nat.zero_le _) hij
        rw [List.getElem?_eq_getElem hi] at this
        simpa using this
  have h2 : (∀ (i : Nat) (l : List Pin), w.spoke[i]? = some l → SpokeP i l) ↔ ∀ j, 0 ≤ j → j < w.spoke.length → spkP w.spoke j = true := by
    have h3 : ∀ (i : Nat) (l : List Pin), SpokeP i l ↔ allGo (fun k => l[k]?.any fun x => Int.tmod x.at' 9 == (i : Int) && (decide (k = 0) || l[k - 1]?.any fun y => pinLess y x)) l.length 0 = true := by
      intro i l
      rw [allGo_iff]
      constructor
      · intro h k _ hk
        have h4 := h k _ (List.getElem?_eq_getElem hk)
        rw [List.getElem?_eq_getElem hk, List.getElem?_eq_getElem (show k - 1 < l.length by omega)]
        simp only [Option.any_some, Bool.and_eq_true, beq_iff_eq, h4.1, true_and, Bool.or_eq_true, decide_eq_true_eq]
        by_cases h0 : k = 0
        · exact .inl h0
        · exact .inr (h4.2 (by omega) _ (List.getElem?_eq_getElem (by omega)))
      · intro h m x hx
        obtain ⟨hm, rfl⟩ := List.getElem?_eq_some_iff.1 hx
        have h4 := h m (Nat.zero_le _) hm
        rw [List.getElem?_eq_getElem hm, List.getElem?_eq_getElem (show m - 1 < l.length by omega)] at h4
        simp only [Option.any_some, Bool.and_eq_true, beq_iff_eq, Bool.or_eq_true, decide_eq_true_eq] at h4
        refine ⟨h4.1, fun h0 y hy => ?_⟩
        rw [List.getElem?_eq_getElem (by omega)] at hy
        injection hy with hy
        subst hy
        exact h4.2.resolve_left (by omega)
    constructor
    · intro h j _ hj
      simp only [spkP, List.getElem?_eq_getElem hj, Option.any_some]
      exact (h3 j _).1 (h j _ (List.getElem?_eq_getElem hj))
    · intro h i l hl
      obtain ⟨hi, rfl⟩ := List.getElem?_eq_some_iff.1 hl
      have := h i (Nat.zero_le _) hi
      simp only [spkP, List.getElem?_eq_getElem hi, Option.any_some] at this
      exact (h3 i _).2 this
  rw [← h1, ← h2]
  simp only [and_assoc]
theorem pin_at {l : List Pin} {k : Nat} (h : k < l.length) : pinP l k = (inB l[k].at' 1 1000008 && inB l[k].id 1 999 && allGo (fun j => l[j]?.any fun y => !(y.id == l[k].id)) k 0) := by simp [pinP, h]
theorem spk_at {ss : List (List Pin)} {i : Nat} (h : i < ss.length) : spkP ss i = allGo (fun k => ss[i][k]?.any fun x => Int.tmod x.at' 9 == (i : Int) && (decide (k = 0) || ss[i][k - 1]?.any fun y => pinLess y x)) ss[i].length 0 := by simp [spkP, h]
instance sWheelOk_c : HC 241 (∀ (W : World) (w : Wheel) (v : Value), Rs (sl 167 pinL) W v w.spoke → w.spoke.flatten.length ≤ 1000000000 →Sp W [] 241 #[.agg #[v]] (RV (.bool (wheelOk w)))) := by
 refine ⟨fun W w v hv0 hb => ?_⟩
 have hv1 := hv0; obtain ⟨a, c, rfl, hc, hr⟩ := hv0; have hl := hr.len; rw [wheelOk_go]
 refine gENT (vs := [_]) Tryz.func241 ?_
 repeat' first | refine ST ?_ | intro _ | apply And.intro
 · grind
 · grind
 refine gISS (k := fun hs => ?_)
 refine gFOR 4 w.spoke.flatten.length (fun k => allGo (pinP w.spoke.flatten) w.spoke.flatten.length 0 = allGo (pinP w.spoke.flatten) w.spoke.flatten.length k) rfl fun k hk hv => ?_
 repeat' first | refine ST ?_ | intro _ | apply And.intro
 · rw [hv, allGo_lt ‹k < _›, pin_at ‹k < _›]; simp [*]
 · rw [hv, allGo_lt ‹k < _›, pin_at ‹k < _›]; simp [*]
 · have hkl : k < w.spoke.flatten.length := ‹_›
   refine gFOR 5 k (fun j => allGo (fun j => w.spoke.flatten[j]?.any fun y => !(y.id == w.spoke.flatten[k].id)) k 0 = allGo (fun j => w.spoke.flatten[j]?.any fun y => !(y.id == w.spoke.flatten[k].id)) k j) rfl fun j hj hv2 => ?_
   repeat' first | refine ST ?_ | intro _ | apply And.intro
   · rw [hv, allGo_lt hkl, pin_at hkl, hv2, allGo_lt ‹j < k›, List.getElem?_eq_getElem (show j < w.spoke.flatten.length by omega)]; simp [*]
   · rw [hv2, allGo_lt ‹j < k›, List.getElem?_eq_getElem (show j < w.spoke.flatten.length by omega)]; simp [*]
   · rw [hv, allGo_lt hkl, pin_at hkl, hv2, allGo_ge ‹_›]; simp [*]
 rw [hv, allGo_ge ‹_›]
 refine gFOR 6 w.spoke.length (fun k => allGo (spkP w.spoke) w.spoke.length 0 = allGo (spkP w.spoke) w.spoke.length k) rfl fun i hi hv3 => ?_
 repeat' first | refine ST ?_ | intro _ | apply And.intro
 · have hil : i < w.spoke.length := ‹_›
   refine gFOR 7 w.spoke[i].length (fun k => allGo (fun k => w.spoke[i][k]?.any fun x => Int.tmod x.at' 9 == (i : Int) && (decide (k = 0) || w.spoke[i][k - 1]?.any fun y => pinLess y x)) w.spoke[i].length 0 = allGo (fun k => w.spoke[i][k]?.any fun x => Int.tmod x.at' 9 == (i : Int) && (decide (k = 0) || w.spoke[i][k - 1]?.any fun y => pinLess y x)) w.spoke[i].length k) rfl fun j hj hv4 => ?_
   repeat' first | refine ST ?_ | intro _ | apply And.intro
   · rw [hv3, allGo_lt hil, spk_at hil, hv4, allGo_lt ‹j < _›, List.getElem?_eq_getElem ‹j < _›]; simp [*]
   · have hj0 : 0 < j := ‹_›
     rw [hv3, allGo_lt hil, spk_at hil, hv4, allGo_lt ‹j < _›, List.getElem?_eq_getElem ‹j < _›, List.getElem?_eq_getElem (show j - 1 < w.spoke[i].length by omega)]; simp [*]; omega
   · have hj0 : 0 < j := ‹_›
     rw [hv4, allGo_lt ‹j < _›, List.getElem?_eq_getElem ‹j < _›, List.getElem?_eq_getElem (show j - 1 < w.spoke[i].length by omega)]; simp [*]
   · have h6 := ‹Int.tmod _ 9 = _›
     have h7 : j = 0 := ‹_›
     rw [hv4, allGo_lt ‹j < _›, List.getElem?_eq_getElem ‹j < _›]
     simp only [Option.any_some, h6, decide_eq_true h7, beq_self_eq_true, Bool.true_or, Bool.and_self, Bool.true_and]
   · rw [hv3, allGo_lt hil, spk_at hil, hv4, allGo_ge ‹_›]; simp
 · rw [hv3, allGo_ge ‹_›]; grind
end SX
end Go.Proofs.YthnbaikmbgaddaaGreat
/- Pins in order; cabins; what a cabin says of its parties. -/
namespace Go.Proofs.YthnbaikmbgaddaaGreat
namespace SX
open Go Go.RowKit
set_option linter.unusedVariables false
set_option linter.unusedSimpArgs false
set_option maxRecDepth 10000
set_option maxHeartbeats 1000000
attribute [local irreducible] CD DN OPL AT QL QT CND RETG BKP HL HT HO slA slHo slP ptC pull pulls
theorem foldl_pIns_len : ∀ (l out : List Pin), (l.foldl pIns out).length = out.length + l.length
  | [], out => by simp
  | p :: l, out => by rw [List.foldl_cons, foldl_pIns_len l, pIns_len, List.length_cons]; omega
instance sPinsOf_c : HC 171 (∀ (W : World) (w : Wheel) (v : Value), Rs (sl 167 pinL) W v w.spoke → w.spoke.flatten.length ≤ 1048576 →Sp W [] 171 #[.agg #[v]] (RO 167 pinL (pinsOf w))) := by
 refine ⟨fun W w v hv0 hb => ?_⟩
 have hv1 := hv0; obtain ⟨a, c, rfl, hc, hr⟩ := hv0; have hl := hr.len
 refine gENT (vs := [_]) Tryz.func171 ?_
 repeat' first | refine ST ?_ | intro _ | apply And.intro
 · simp [pinsOf, *]
 · have hw : wheelOk w = true := ‹_›
   refine gISS (j := 1) (k := fun hs => ?_)
   refine gFORO 5 w.spoke.flatten.length 3 (fun _ : Unit => []) (fun k _ xs => xs = (w.spoke.flatten.take k).foldl pIns []) () (h0 := rfl) (body := fun k _ a c9 xs hk hv => ?_)
   have hxl : xs.length = k := by rw [hv, foldl_pIns_len, List.length_take, List.length_nil]; omega
   repeat' first | refine ST ?_ | intro _ | apply And.intro
   · rw [hv, ← List.take_append_getElem ‹k < _›, List.foldl_append]; rfl
   · rw [hv, List.take_of_length_le (by omega)]; simp [pinsOf, pinsSort, hw]
instance sCabinOk_c : HC 167 (∀ (W : World) (cs : List Value) (x : Cabin), CabinR 167 W cs x → x.wheel.spoke.flatten.length ≤ 1048576 →Sp W [] 167 #[.agg cs.toArray] (RV (.bool (cabinOk x)))) := by
 refine ⟨fun W cs x hx hb => ?_⟩
 have hx1 := hx; obtain ⟨a1, c1, a2, c2, rfl, h1, h2, h3, h4⟩ := hx
 refine gENT (vs := [_]) Tryz.func167 ?_
 repeat' first | refine ST ?_ | intro _ | apply And.intro
 all_goals simp [cabinOk, *]
instance sAgrees_c : HC 80 (∀ (W : World) (cr : List Value) (r : Rules) (cs : List Value) (x : Cabin) (list : List Party) (v : Value) (cabin now : Int), RulesR W cr r → CabinR 167 W cs x → Rs partyL W v list → x.wheel.spoke.flatten.length ≤ 1048576 → list.length ≤ 1000000 →Sp W [] 80 #[.agg cr.toArray, .agg cs.toArray, v, vi cabin, vi now] (RV (.bool (agrees r x list cabin now)))) := by
 refine ⟨fun W cr r cs x list v cabin now hrr hx ⟨a, c, e, hc, hr⟩ hb hb2 => ?_⟩
 subst e
 have hx1 := hx; obtain ⟨a1, c1, a2, c2, rfl, h1, h2, h3, h4⟩ := hx
 have hr1 := hrr; obtain ⟨a3, c3, rfl, h5, h6⟩ := hrr
 refine gENT (vs := [_, _, _, _, _]) Tryz.func80 ?_
 repeat' first | refine ST ?_ | intro _ | apply And.intro
 all_goals simp [agrees, *]
end SX
end Go.Proofs.YthnbaikmbgaddaaGreat
/- Parties, jobs, houses that are right. -/
namespace Go.Proofs.YthnbaikmbgaddaaGreat
namespace SX
open Go Go.RowKit
set_option linter.unusedVariables false
set_option linter.unusedSimpArgs false
set_option maxRecDepth 10000
set_option maxHeartbeats 1000000
attribute [local irreducible] CD DN OPL AT QL QT CND RETG BKP HL HT HO slA slHo slP ptC pull pulls
def parP (h : House) (i : Nat) : Bool := h.parties[i]?.any fun p => partyOk h.rules p h.now && decide (p.turn < h.turn) && (decide (i = 0) || h.parties[i - 1]?.any fun q => decide (q.id < p.id)) &&
  allGo (fun k => h.parties[k]?.any fun q => !(q.turn == p.turn) && !(decide (q.turn < p.turn) && decide (q.since > p.since)) && !(decide (q.turn > p.turn) && decide (q.since < p.since))) i 0
theorem partiesOk_go (h : House) : partiesOk h = allGo (parP h) h.parties.length 0 := by
  rw [Bool.eq_iff_iff, allGo_iff]
  have h0 : partiesOk h = true ↔ PartiesP h := by simp [partiesOk]
  rw [h0]
  constructor
  · intro w j _ hj
    obtain ⟨w1, w2, w3, w4⟩ := w j _ (List.getElem?_eq_getElem hj)
    simp only [parP, List.getElem?_eq_getElem hj, Option.any_some, Bool.and_eq_true, decide_eq_true_eq, Bool.or_eq_true, allGo_iff]
    refine ⟨⟨⟨w1, w2⟩, ?_⟩, fun k _ hk => ?_⟩
    · by_cases h0 : j = 0
      · exact .inl h0
      · rw [List.getElem?_eq_getElem (show j - 1 < h.parties.length by omega)]
        exact .inr (by simpa using w3 (by omega) _ (List.getElem?_eq_getElem (by omega)))
    · rw [List.getElem?_eq_getElem (show k < h.parties.length by omega)]
      have := w4 k _ hk (List.getElem?_eq_getElem (by omega))
      simp only [Option.any_some]
      grind
  · intro w i p hp
    obtain ⟨hi, rfl⟩ := List.getElem?_eq_some_iff.1 hp
    have w1 := w i (Nat.zero_le _) hi
    simp only [parP, List.getElem?_eq_getElem hi, Option.any_some, Bool.and_eq_true, decide_eq_true_eq, Bool.or_eq_true, allGo_iff] at w1
    obtain ⟨⟨⟨w1, w2⟩, w3⟩, w4⟩ := w1
    refine ⟨w1, w2, fun h0 q hq => ?_, fun j q hj hq => ?_⟩
    · rw [hq] at w3
      simpa using w3.resolve_left (by omega)
    · have := w4 j (Nat.zero_le _) hj
      rw [hq] at this
      simp only [Option.any_some] at this
      grind
theorem par_at {h : House} {i : Nat} (hi : i < h.parties.length) : parP h i = (partyOk h.rules h.parties[i] h.now && decide (h.parties[i].turn < h.turn) && (decide (i = 0) || decide (h.parties[i - 1].id < h.parties[i].id)) &&
    allGo (fun k => h.parties[k]?.any fun q => !(q.turn == h.parties[i].turn) && !(decide (q.turn < h.parties[i].turn) && decide (q.since > h.parties[i].since)) && !(decide (q.turn > h.parties[i].turn) && decide (q.since < h.parties[i].since))) i 0) := by
  simp [parP, hi, List.getElem?_eq_getElem (show i - 1 < h.parties.length by omega)]
instance sParties_c : HC 78 (∀ (W : World) (cs : List Value) (h : House), HsR W cs h →Sp W [] 78 #[.agg cs.toArray] (RV (.bool (partiesOk h)))) := by
 refine ⟨fun W cs h hh => ?_⟩
 have hh1 := hh; obtain ⟨a1, c1, a2, c2, a3, c3, a4, c4, a5, c5, rfl, h1, h2, h3, h4, h5, h6, h7, h8, h9, h10⟩ := hh
 have hl := h7.len; rw [partiesOk_go]
 refine gENT (vs := [_]) Tryz.func78 ?_
 repeat' first | refine ST ?_ | intro _ | apply And.intro
 refine gFOR 3 h.parties.length (fun k => allGo (parP h) h.parties.length 0 = allGo (parP h) h.parties.length k) rfl fun k hk hv => ?_
 repeat' first | refine ST ?_ | intro _ | apply And.intro
 iterate 3 (· rw [hv, allGo_lt ‹k < _›, par_at ‹k < _›]; grind)
 · have hkl : k < h.parties.length := ‹_›
   refine gFOR 5 k (fun j => allGo (fun k9 => h.parties[k9]?.any fun q => !(q.turn == h.parties[k].turn) && !(decide (q.turn < h.parties[k].turn) && decide (q.since > h.parties[k].since)) && !(decide (q.turn > h.parties[k].turn) && decide (q.since < h.parties[k].since))) k 0 = allGo (fun k9 => h.parties[k9]?.any fun q => !(q.turn == h.parties[k].turn) && !(decide (q.turn < h.parties[k].turn) && decide (q.since > h.parties[k].since)) && !(decide (q.turn > h.parties[k].turn) && decide (q.since < h.parties[k].since))) k j) rfl fun j hj hv2 => ?_
   repeat' first | refine ST ?_ | intro _ | apply And.intro
   all_goals first | (rw [hv, allGo_lt hkl, par_at hkl, hv2, allGo_lt ‹j < k›, List.getElem?_eq_getElem (show j < h.parties.length by omega)]; simp only [Option.any_some]; grind) | (rw [hv2, allGo_lt ‹j < k›, List.getElem?_eq_getElem (show j < h.parties.length by omega)]; simp only [Option.any_some]; grind) | (rw [hv, allGo_lt hkl, par_at hkl, hv2, allGo_ge ‹¬ j < k›]; grind)
 · have hkl : k < h.parties.length := ‹_›
   refine gFOR 5 k (fun j => allGo (fun k9 => h.parties[k9]?.any fun q => !(q.turn == h.parties[k].turn) && !(decide (q.turn < h.parties[k].turn) && decide (q.since > h.parties[k].since)) && !(decide (q.turn > h.parties[k].turn) && decide (q.since < h.parties[k].since))) k 0 = allGo (fun k9 => h.parties[k9]?.any fun q => !(q.turn == h.parties[k].turn) && !(decide (q.turn < h.parties[k].turn) && decide (q.since > h.parties[k].since)) && !(decide (q.turn > h.parties[k].turn) && decide (q.since < h.parties[k].since))) k j) rfl fun j hj hv2 => ?_
   repeat' first | refine ST ?_ | intro _ | apply And.intro
   all_goals first | (rw [hv, allGo_lt hkl, par_at hkl, hv2, allGo_lt ‹j < k›, List.getElem?_eq_getElem (show j < h.parties.length by omega)]; simp only [Option.any_some]; grind) | (rw [hv2, allGo_lt ‹j < k›, List.getElem?_eq_getElem (show j < h.parties.length by omega)]; simp only [Option.any_some]; grind) | (rw [hv, allGo_lt hkl, par_at hkl, hv2, allGo_ge ‹¬ j < k›]; grind)
 · rw [hv, allGo_ge ‹_›]
end SX
end Go.Proofs.YthnbaikmbgaddaaGreat
/- Jobs that are right. -/
namespace Go.Proofs.YthnbaikmbgaddaaGreat
namespace SX
open Go Go.RowKit
set_option linter.unusedVariables false
set_option linter.unusedSimpArgs false
set_option maxRecDepth 10000
set_option maxHeartbeats 1000000
attribute [local irreducible] CD DN OPL AT QL QT CND RETG BKP HL HT HO slA slHo slP ptC pull pulls
def todP (h : House) (i : Nat) : Bool := h.todo[i]?.any fun x => inB x 0 (wr (h.cabins.length - 1)) && !((h.todo.take i).any fun e => e == x)
def jobP (h : House) (i : Nat) : Bool := h.jobs[i]?.any fun x => inB x (-1) (wr (h.cabins.length - 1))
theorem jobsOk_go (h : House) : jobsOk h = (allGo (todP h) h.todo.length 0 && allGo (jobP h) h.jobs.length 0 && ((h.jobs.length : Int) == h.rules.crew)) := by
  rw [Bool.eq_iff_iff]
  have h0 : jobsOk h = true ↔ JobsP h := by simp [jobsOk]
  rw [h0]
  simp only [JobsP, Bool.and_eq_true, allGo_iff, beq_iff_eq, and_assoc]
  have e1 : (∀ (i : Nat) (x : Int), h.todo[i]? = some x → inB x 0 (wr (h.cabins.length - 1)) = true ∧ ∀ (j : Nat) (y : Int), j < i → h.todo[j]? = some y → y ≠ x) ↔ ∀ j, 0 ≤ j → j < h.todo.length → todP h j = true := by
    constructor
    · intro w j _ hj
      obtain ⟨w1, w2⟩ := w j _ (List.getElem?_eq_getElem hj)
      simp only [todP, List.getElem?_eq_getElem hj, Option.any_some, w1, Bool.true_and, Bool.not_eq_true', List.any_eq_false, beq_iff_eq]
      intro y hy
      obtain ⟨k, hk, rfl⟩ := List.mem_iff_getElem.1 hy
      rw [List.length_take] at hk
      rw [List.getElem_take]
      exact w2 k _ (by omega) (List.getElem?_eq_getElem (by omega))
    · intro w i x hx
      obtain ⟨hi, rfl⟩ := List.getElem?_eq_some_iff.1 hx
      have w1 := w i (Nat.zero_le _) hi
      simp only [todP, List.getElem?_eq_getElem hi, Option.any_some, Bool.and_eq_true, Bool.not_eq_true', List.any_eq_false, beq_iff_eq] at w1
      refine ⟨w1.1, fun j y hj hy => w1.2 y ?_⟩
      obtain ⟨hj2, rfl⟩ := List.getElem?_eq_some_iff.1 hy
      exact List.mem_iff_getElem.2 ⟨j, by rw [List.length_take]; omega, by rw [List.getElem_take]⟩
  have e2 : (∀ x ∈ h.jobs, inB x (-1) (wr (h.cabins.length - 1)) = true) ↔ ∀ j, 0 ≤ j → j < h.jobs.length → jobP h j = true := by
    constructor
    · intro w j _ hj
      simp only [jobP, List.getElem?_eq_getElem hj, Option.any_some]
      exact w _ (List.getElem_mem hj)
    · intro w x hx
      obtain ⟨j, hj, rfl⟩ := List.mem_iff_getElem.1 hx
      simpa only [jobP, List.getElem?_eq_getElem hj, Option.any_some] using w j (Nat.zero_le _) hj
  rw [e1, e2]
theorem tod_at {h : House} {i : Nat} (hi : i < h.todo.length) : todP h i = (inB h.todo[i] 0 (wr (h.cabins.length - 1)) && !((h.todo.take i).any fun e => e == h.todo[i])) := by simp [todP, hi]
theorem job_at {h : House} {i : Nat} (hi : i < h.jobs.length) : jobP h i = inB h.jobs[i] (-1) (wr (h.cabins.length - 1)) := by simp [jobP, hi]
instance sJobs_c : HC 79 (∀ (W : World) (cs : List Value) (h : House), HsR W cs h →Sp W [] 79 #[.agg cs.toArray] (RV (.bool (jobsOk h)))) := by
 refine ⟨fun W cs h hh => ?_⟩
 have hh1 := hh; obtain ⟨a1, c1, a2, c2, a3, c3, a4, c4, a5, c5, rfl, h1, h2, h3, h4, h5, h6, h7, h8, h9, h10⟩ := hh
 have hl := h9.len; have hl2 := h10.len; rw [jobsOk_go]
 refine gENT (vs := [_]) Tryz.func79 ?_
 repeat' first | refine ST ?_ | intro _ | apply And.intro
 refine gFOR 3 h.todo.length (fun k => allGo (todP h) h.todo.length 0 = allGo (todP h) h.todo.length k) rfl fun k hk hv => ?_
 repeat' first | refine ST ?_ | intro _ | apply And.intro
 all_goals first | (rw [hv, allGo_lt ‹k < _›, tod_at ‹k < _›]; grind) | skip
 rw [hv, allGo_ge ‹_›]
 refine gFOR 4 h.jobs.length (fun k => allGo (jobP h) h.jobs.length 0 = allGo (jobP h) h.jobs.length k) rfl fun k2 hk2 hv2 => ?_
 repeat' first | refine ST ?_ | intro _ | apply And.intro
 all_goals first | (rw [hv2, allGo_lt ‹k2 < _›, job_at ‹k2 < _›]; grind) | (rw [hv2, allGo_ge ‹_›]; grind)
end SX
end Go.Proofs.YthnbaikmbgaddaaGreat
/- Houses that are right. -/
namespace Go.Proofs.YthnbaikmbgaddaaGreat
namespace SX
open Go Go.RowKit
set_option linter.unusedVariables false
set_option linter.unusedSimpArgs false
set_option maxRecDepth 10000
set_option maxHeartbeats 1000000
attribute [local irreducible] CD DN OPL AT QL QT CND RETG BKP HL HT HO slA slHo slP ptC pull pulls
noncomputable def cabP (h : House) (i : Nat) : Bool := h.cabins[i]?.any fun c => decide (h.rules.seats[i]? = some c.seats.total) && agrees h.rules c h.parties i h.now && !decide (countGo h.parties i 0 > h.rules.room)
theorem houseOk_go (h : House) : houseOk h = (rulesOk h.rules && inB h.now 0 1000000 && inB h.turn 1 1000001 && decide (h.parties.length ≤ 40) && decide (h.cabins.length = h.rules.seats.length) && partiesOk h && jobsOk h && allGo (cabP h) h.cabins.length 0) := by
  rw [Bool.eq_iff_iff, show houseOk h = true ↔ HouseP h from ⟨houseP_of, houseOk_t⟩]
  have e1 : (∀ (k : Nat) (c : Cabin), h.cabins[k]? = some c → h.rules.seats[k]? = some c.seats.total ∧ agrees h.rules c h.parties k h.now = true ∧ countGo h.parties k 0 ≤ h.rules.room) ↔ ∀ j, 0 ≤ j → j < h.cabins.length → cabP h j = true := by
    constructor
    · intro w j _ hj
      obtain ⟨w1, w2, w3⟩ := w j _ (List.getElem?_eq_getElem hj)
      simp only [cabP, List.getElem?_eq_getElem hj, Option.any_some, w1, w2, decide_true, Bool.true_and, Bool.not_eq_true', decide_eq_false_iff_not]
      omega
    · intro w i c hc
      obtain ⟨hi, rfl⟩ := List.getElem?_eq_some_iff.1 hc
      have w1 := w i (Nat.zero_le _) hi
      simp only [cabP, List.getElem?_eq_getElem hi, Option.any_some, Bool.and_eq_true, decide_eq_true_eq, Bool.not_eq_true', decide_eq_false_iff_not] at w1
      exact ⟨w1.1.1, w1.1.2, by omega⟩
  have h0 : partiesOk h = true ↔ PartiesP h := by simp [partiesOk]
  have h2 : jobsOk h = true ↔ JobsP h := by simp [jobsOk]
  simp only [HouseP, Bool.and_eq_true, decide_eq_true_eq, allGo_iff, e1, h0, h2, and_assoc]
theorem cab_at {h : House} {i : Nat} (hi : i < h.cabins.length) (hs : i < h.rules.seats.length) : cabP h i = (decide (h.rules.seats[i] = h.cabins[i].seats.total) && agrees h.rules h.cabins[i] h.parties i h.now && !decide (countGo h.parties i 0 > h.rules.room)) := by simp [cabP, hi, hs]
instance sHouseOk_c : HC 19 (∀ (W : World) (cs : List Value) (h : House), HsR W cs h → (∀ c ∈ h.cabins, c.wheel.spoke.flatten.length ≤ 1048576) →Sp W [] 19 #[.agg cs.toArray] (RV (.bool (houseOk h)))) := by
 refine ⟨fun W cs h hh hb => ?_⟩
 have hh1 := hh; obtain ⟨a1, c1, a2, c2, a3, c3, a4, c4, a5, c5, rfl, h1, h2, h3, h4, h5, h6, h7, h8, h9, h10⟩ := hh
 have hl := h8.len; have hl2 := h7.len; have hl3 := h6.len; rw [houseOk_go]
 refine gENT (vs := [_]) Tryz.func19 ?_
 repeat' first | refine ST ?_ | intro _ | apply And.intro
 all_goals try (grind; done)
 have hb' : ∀ (k : Nat) (h9 : k < h.cabins.length), (h.cabins[k]).wheel.spoke.flatten.length ≤ 1048576 := fun k h9 => hb _ (List.getElem_mem h9)
 refine gFOR 3 h.cabins.length (fun k => allGo (cabP h) h.cabins.length 0 = allGo (cabP h) h.cabins.length k) rfl fun k hk hv => ?_
 repeat' first | refine ST ?_ | intro _ | apply And.intro
 all_goals first | (rw [hv, allGo_lt ‹k < _›, cab_at ‹k < _› (by omega)]; grind) | (rw [hv, allGo_ge ‹_›]; grind)
end SX
end Go.Proofs.YthnbaikmbgaddaaGreat
/- Ledgers that move; parties; pins that are due; copies. -/
namespace Go.Proofs.YthnbaikmbgaddaaGreat
namespace SX
open Go Go.RowKit
set_option linter.unusedVariables false
set_option linter.unusedSimpArgs false
set_option maxRecDepth 10000
set_option maxHeartbeats 1000000
attribute [local irreducible] CD DN OPL AT QL QT CND RETG BKP HL HT HO slA slHo slP ptC pull pulls
instance : ElN Tryz.prog 155 (sl 167 (flat 2 pinE pinH)) := inferInstanceAs (ElN Tryz.prog 155 (sl 167 pinL))
instance sSeatsUntie_c : HC 272 (∀ (W : World) (l : Ledger) (n : Int),Sp W [] 272 #[.agg (ledgerE l).toArray, vi n] (RT2 (RV (.agg (ledgerE (lUntie l n)).toArray)) RBo)) := by
 refine ⟨fun W l n => gENT (vs := [_, _]) Tryz.func272 ?_⟩
 repeat' first | refine ST ?_ | intro _ | apply And.intro
 all_goals first | trivial | (rw [turn_untie]; rfl)
instance sPartyAt_c : HC 63 (∀ (W : World) (cs : List Value) (h : House) (id : Int), HsR W cs h →Sp W [] 63 #[.agg cs.toArray, vi id] (RV (vi (atId h.parties id)))) := by
 refine ⟨fun W cs h id hh => ?_⟩
 obtain ⟨a1, c1, a2, c2, a3, c3, a4, c4, a5, c5, rfl, h1, h2, h3, h4, h5, h6, h7, h8, h9, h10⟩ := hh
 refine gENT (vs := [_, _]) Tryz.func63 ?_
 repeat' first | refine ST ?_ | intro _ | apply And.intro
 all_goals rfl
instance sPartyCut_c : HC 271 (∀ (W : World) (list : List Party) (v : Value) (id : Int), Rs partyL W v list → list.length ≤ 1048576 →Sp W [] 271 #[v, vi id] (RO 56 partyL (partyCut list id))) := by
 refine ⟨fun W list v id ⟨a, c, e, hc, hr⟩ hb => ?_⟩
 subst e; have hl := hr.len; have hat := atId_lt list id
 refine gENT (vs := [_, _]) Tryz.func271 ?_
 repeat' first | refine ST ?_ | intro _ | apply And.intro
 · rw [partyCut_no ‹_›]; rfl
 all_goals (rw [partyCut_at ‹_›, wrap_of (by omega) (by omega), Int.toNat_add (by omega) (by omega)]; simp [cutAt])
instance sl5Copy_c : HC 69 (∀ (W : World) (cs : List Value) (r : Rules), RulesR W cs r → r.seats.length ≤ 1048576 →Sp W [] 69 #[.agg cs.toArray] (RRu 3 r)) := by
 refine ⟨fun W cs r ⟨a, c, e, hc, hr⟩ hb => ?_⟩
 subst e
 refine gENT (vs := [_]) Tryz.func69 ?_
 repeat' first | refine ST ?_ | intro _ | apply And.intro
 all_goals rfl
instance sl9Copy_c : HC 247 (∀ (W : World) (w : Wheel) (v : Value), Rs (sl 167 pinL) W v w.spoke → w.spoke.flatten.length ≤ 1048576 → w.spoke.length ≤ 1048576 →Sp W [] 247 #[.agg #[v]] (RWh 155 167 w)) := by
 refine ⟨fun W w v hv0 hb hn => ?_⟩
 obtain ⟨a, c, rfl, hc, hr⟩ := hv0; have hl := hr.len
 refine gENT (vs := [_]) Tryz.func247 ?_
 repeat' first | refine ST ?_ | intro _ | apply And.intro
 refine gNILN 155 (sl 167 pinL) ?_
 refine gFORG 4 w.spoke.length (fun _ => []) [(2, fun q : HH × List (List Pin) => [.slice q.1.1 q.2.length q.1.2])] (fun q => [slA 155 (sl 167 pinL) (.slice q.1.1 q.2.length q.1.2) q.2]) (fun k q => q.2 = w.spoke.take k) ((none, 0), []) (h0 := rfl) (body := fun k q hk hv => ?_)
 have hql : q.2.length = k := by rw [hv, List.length_take]; omega
 by_cases hkl : k < w.spoke.length
 · have hf := flat_mem (List.getElem?_eq_getElem hkl)
   repeat' first | refine ST ?_ | intro _ | apply And.intro
   all_goals first | (exfalso; omega) | refine gGBACK ((_, _), _) (by omega) (h := ?_)
   all_goals (rw [hv, ← List.take_append_getElem hkl]; rfl)
 · repeat' first | refine ST ?_ | intro _ | apply And.intro
   all_goals first | (exfalso; omega) | (rw [hv, List.take_of_length_le (by omega)])
instance sl10Copy_c : HC 175 (∀ (W : World) (cs : List Value) (x : Cabin), CabinR 167 W cs x → CabinSz x →Sp W [] 175 #[.agg cs.toArray] (RCa 142 155 167 x)) := by
 refine ⟨fun W cs x hx hs => ?_⟩
 obtain ⟨hs1, hs2, hs3⟩ := hs; obtain ⟨a1, c1, a2, c2, rfl, h1, h2, h3, h4⟩ := hx
 refine gENT (vs := [_]) Tryz.func175 ?_
 repeat' first | refine ST ?_ | intro _ | apply And.intro
 all_goals rfl
end SX
end Go.Proofs.YthnbaikmbgaddaaGreat
