/- New houses, exactly; rules that may be wrong. -/
import Derived.Test.YtejojcoaohlfbaaGreatJB1
import Derived.Test.YtejojcoaohlfbaaGreatFE
import Derived.Test.YtejojcoaohlfbaaGreatFD
import Derived.Test.YtejojcoaohlfbaaGreatMdb6
import Derived.Test.YtejojcoaohlfbaaGreatSx9
namespace Go.Proofs.YtejojcoaohlfbaaGreat
namespace SX
open Go Go.RowKit
set_option linter.unusedVariables false
set_option linter.unusedSimpArgs false
set_option maxRecDepth 10000
set_option maxHeartbeats 1000000
attribute [local irreducible] CD DN OPL AT QL QT CND RETG BKP HL HT HO slA slHo slP ptC pull pulls
attribute [local irreducible] curO keepA RWk IsCur IsKd
/-- a cabin that is new -/
def CabNew (n : Int) (c : Cabin) : Prop := c.seats = ⟨n, 0, 0, n, 0⟩ ∧ c.row = [] ∧ c.wheel.spoke.length = 9 ∧ c.wheel.spoke.flatten.length = 0
theorem led_new {n : Int} (h0 : 1 ≤ n) (h1 : n ≤ 60) : ledgerOk ⟨n, 0, 0, n, 0⟩ = true := ledgerOk_iff.2 ⟨⟨h0, h1⟩, by dsimp only; omega, by dsimp only; omega, by dsimp only; omega, by dsimp only; omega, by dsimp only; omega⟩
def NewH (r : Rules) (h : House) : Prop := h.rules = r ∧ h.now = 0 ∧ h.turn = 1 ∧ h.parties = [] ∧ h.todo = [] ∧ h.jobs = List.replicate r.crew.toNat (-1) ∧ h.cabins.length = r.seats.length ∧ ∀ (k : Nat) (c : Cabin) (t : Int), h.cabins[k]? = some c → r.seats[k]? = some t → CabNew t c
theorem flat0 {w : Wheel} (h : w.spoke.flatten.length = 0) : ∀ l ∈ w.spoke, l = [] := fun l hl => by
  have h1 : w.spoke.flatten = [] := List.eq_nil_of_length_eq_zero h
  rw [List.flatten_eq_nil_iff] at h1
  exact h1 l hl
theorem newH_hp {r : Rules} {h : House} (hr : rulesOk r = true) (hn : NewH r h) : HRep h ∧ ∀ (i : Nat) (c : Cabin), h.cabins[i]? = some c → c.seats.sold = c.seats.total := by
  obtain ⟨n1, n2, n3, n4, n5, n6, n7, n8⟩ := hn
  have rr := rr_of hr
  have hs := allSeats_mem (l := r.seats) (by simp only [rulesOk, Bool.and_eq_true] at hr; exact hr.2)
  have hcab : ∀ (k : Nat) (c : Cabin), h.cabins[k]? = some c → ∃ t, r.seats[k]? = some t ∧ (1 ≤ t ∧ t ≤ 60) ∧ CabNew t c := fun k c hc => by
    have hk := (List.getElem?_eq_some_iff.1 hc).1
    have ht := List.getElem?_eq_getElem (l := r.seats) (i := k) (by omega)
    exact ⟨_, ht, hs _ (List.getElem_mem _), n8 k c _ hc ht⟩
  refine ⟨⟨by rw [n1]; exact hr, by omega, by omega, by rw [n4]; simp, by rw [n1]; exact n7, ?_, ?_, fun k c hc => ?_⟩, fun i c hc => ?_⟩
  · refine ⟨fun p hm => ?_, ?_, ?_⟩
    · rw [n4] at hm; exact absurd hm List.not_mem_nil
    · rw [n4]; exact List.Pairwise.nil
    · rw [n4]; exact List.Pairwise.nil
  · refine JobsP.iff.2 ⟨fun x hx => ?_, by rw [n5]; exact List.nodup_nil, fun x hx => ?_, ?_⟩
    · rw [n5] at hx; exact absurd hx List.not_mem_nil
    · rw [n6] at hx
      rw [(List.mem_replicate.1 hx).2, wr_of (by have := rr.seats; omega) (by have := rr.seats; omega)]
      have := rr.seats
      simp only [inB, Bool.and_eq_true, decide_eq_true_eq]; omega
    · have := rr.crew
      rw [n6, List.length_replicate, n1]; omega
  · obtain ⟨t, ht, hr9, c1, c2, c3, c4⟩ := hcab k c hc
    have hfl := flat0 c4
    refine ⟨by rw [n1, ht, c1], ⟨by rw [c1]; exact led_new hr9.1 hr9.2, by rw [c2]; exact List.Pairwise.nil, fun e => ?_, ?_, fun x => ?_, by rw [c1, n4]; rfl, by rw [c1, n4]; rfl⟩, by rw [n4, n1]; have := rr.room; simp [cnt]; omega⟩
    · rw [c2, n4]
      exact ⟨fun w => absurd w List.not_mem_nil, fun ⟨p, hp, _⟩ => absurd hp List.not_mem_nil⟩
    · refine wheelP_iff.2 ⟨c3, by omega, fun p hp => ?_, ?_, fun i l hl => ?_⟩
      · rw [List.eq_nil_of_length_eq_zero c4] at hp; exact absurd hp List.not_mem_nil
      · rw [List.eq_nil_of_length_eq_zero c4]; exact List.nodup_nil
      · rw [hfl l (List.mem_of_getElem? hl)]
        exact ⟨fun x hx => absurd hx List.not_mem_nil, List.Pairwise.nil⟩
    · rw [List.eq_nil_of_length_eq_zero c4, n4]
      exact ⟨fun w => absurd w List.not_mem_nil, fun ⟨p, hp, _⟩ => absurd hp List.not_mem_nil⟩
  · obtain ⟨t, ht, hr9, c1, _⟩ := hcab i c hc
    rw [c1]
instance sLedgerNewX_c : HC 227 (∀ (W : World) (n : Int), 1 ≤ n → n ≤ 60 →Sp W [] 227 #[vi n] (RV (.tuple #[.agg (ledgerE ⟨n, 0, 0, n, 0⟩).toArray, .bool true]))) := by
 refine ⟨fun W n h0 h1 => ?_⟩
 have hl := led_new h0 h1
 refine gENT (vs := [_]) Tryz.func227 ?_
 repeat' first | exact absurd (‹ledgerOk _ = false›.symm.trans hl) (by decide) | refine STD ?_ | refine ST ?_ | refine ST2 ?_ | refine ST3 ?_ | intro _ | apply And.intro
 all_goals first | rfl | trace_state
instance sCabinNewX_c : HC 121 (∀ (W : World) (n : Int), 1 ≤ n → n ≤ 60 →Sp W [] 121 #[vi n] (RW2 (α := Cabin) (β := Bool) (ι := HH × HH) (fun x => CabNew n x.1) wcab ocab (fun b => .bool b) [])) := by
 refine ⟨fun W n h0 h1 => ?_⟩
 refine gENT (vs := [_]) Tryz.func121 (gNILN 159 entryL (gNILN 199 (sl 166 pinL) ?_))
 repeat' first | refine STD ?_ | refine ST ?_ | refine ST2 ?_ | refine ST3 ?_ | intro _ | apply And.intro
 all_goals first
  | rfl
  | (have h9 : (‹Wheel› : Wheel).spoke.length = 9 ∧ (‹Wheel› : Wheel).spoke.flatten.length = 0 := ‹_›
     first | exact h9.1 | exact h9.2)
  | trace_state
theorem zero_bad : houseOk ⟨⟨[], 0, 0, 0, 0, 0, 0, 0, 0⟩, 0, 0, [], [], [], []⟩ = false := by
  cases hh : houseOk ⟨⟨[], 0, 0, 0, 0, 0, 0, 0, 0⟩, 0, 0, [], [], [], []⟩ with
  | false => rfl
  | true => exact absurd (houseP_iff.1 (houseP_of hh)).rules (by decide)
def NewX (r : Rules) (x : House × Bool) : Prop := HouseSz x.1 ∧ x.2 = rulesOk r ∧ (rulesOk r = true → NewH r x.1) ∧ (rulesOk r = false → x.1.cabins = [] ∧ houseOk x.1 = false)
theorem newX_yes {r : Rules} {h : House} (hok : rulesOk r = true) (hn : NewH r h) : NewX r (h, true) := ⟨(newH_hp hok hn).1.sz, hok.symm, fun _ => hn, fun w => (by rw [hok] at w; cases w)⟩
theorem newX_no {r : Rules} (hob : rulesOk r = false) : NewX r (⟨⟨[], 0, 0, 0, 0, 0, 0, 0, 0⟩, 0, 0, [], [], [], []⟩, false) := ⟨⟨by simp, by simp, by simp, by simp, by simp, fun c hc => absurd hc List.not_mem_nil⟩, hob.symm, fun w => (by rw [hob] at w; cases w), fun _ => ⟨rfl, zero_bad⟩⟩
attribute [local irreducible] NewX
instance sHouseNewX_c : HC 39 (∀ (W : World) (cs : List Value) (r : Rules), RulesR W cs r →Sp W [] 39 #[.agg cs.toArray] (RW2 (α := House) (β := Bool) (ι := H5) (NewX r) hV hO9 (fun b => .bool b) [])) := by
 refine ⟨fun W cs r hr => ?_⟩
 obtain ⟨a, c, rfl, hc, hr2⟩ := hr
 refine gENT (vs := [_]) Tryz.func39 (gNILN 3 intL (gNILN 3 intL (gNILN 3 intL (gNILN 91 partyL (gNILN 70 (cabinLx 159 199 166) ?_)))))
 by_cases hok : rulesOk r = true
 · have hrr := rr_of hok
   have hs4 := hrr.seats; have hcr := hrr.crew
   have hs := allSeats_mem (l := r.seats) (by simp only [rulesOk, Bool.and_eq_true] at hok; exact hok.2)
   repeat' first | exact absurd (‹rulesOk r = false›.symm.trans hok) (by decide) | refine STD ?_ | refine ST ?_ | refine ST2 ?_ | refine ST3 ?_ | intro _ | apply And.intro
   rename_i x9
   refine gFORG 5 r.seats.length (fun q : HH × List Cabin => []) [(2, fun q => [.slice x9.1 r.seats.length x9.2, vi r.tiers, vi r.room, vi r.size, vi r.period, vi r.window, vi r.rest, vi r.tries, vi r.crew, vi 0, vi 1, .slice none 0 0, .slice q.1.1 q.2.length q.1.2, .slice none 0 0, .slice none 0 0])] (fun q => [slA 70 (cabinLx 159 199 166) (.slice q.1.1 q.2.length q.1.2) q.2]) (fun k q => q.2.length = k ∧ ∀ (j : Nat) (c : Cabin) (t : Int), q.2[j]? = some c → r.seats[j]? = some t → CabNew t c) ((none, 0), []) (h0 := ⟨rfl, fun j c t hc => by simp at hc⟩) (body := fun k q hk hi => ?_)
   obtain ⟨⟨e, f⟩, xs⟩ := q
   obtain ⟨i1, i2⟩ : xs.length = k ∧ ∀ (j : Nat) (c : Cabin) (t : Int), xs[j]? = some c → r.seats[j]? = some t → CabNew t c := hi
   by_cases hkl : k < r.seats.length
   · have hst := hs _ (List.getElem_mem hkl)
     have hs0 := hst.1; have hs1 := hst.2
     repeat' first | exact absurd hkl ‹¬ k < r.seats.length› | refine STD ?_ | refine ST ?_ | refine ST2 ?_ | refine ST3 ?_ | intro _ | apply And.intro
     refine gGBACK ((_, _), _) hkl (h := ?_)
     refine ⟨by simp [i1], fun j c t hc ht => ?_⟩
     dsimp only at hc
     by_cases hj : j < xs.length
     · rw [List.getElem?_append_left hj] at hc
       exact i2 j c t hc ht
     · rw [List.getElem?_append_right (by omega)] at hc
       have hj0 : j - xs.length = 0 := by
         have := (List.getElem?_eq_some_iff.1 hc).1
         simp at this; omega
       rw [hj0] at hc
       have hjk : j = k := by omega
       subst hjk
       rw [List.getElem?_eq_getElem hkl] at ht
       injection ht with ht
       simp at hc
       rw [← hc, ← ht]
       assumption
   · repeat' first | exact absurd ‹k < r.seats.length› hkl | refine STD ?_ | refine ST ?_ | refine ST2 ?_ | refine ST3 ?_ | intro _ | apply And.intro
     refine gFORG 8 r.crew.toNat (fun q : HH × List Int => []) [(2, fun q => [.slice x9.1 r.seats.length x9.2, vi r.tiers, vi r.room, vi r.size, vi r.period, vi r.window, vi r.rest, vi r.tries, vi r.crew, vi 0, vi 1, .slice none 0 0, .slice e xs.length f, .slice none 0 0, .slice q.1.1 q.2.length q.1.2])] (fun q => [slA 3 intL (.slice q.1.1 q.2.length q.1.2) q.2]) (fun k q => q.2 = List.replicate k (-1)) ((none, 0), []) (h0 := rfl) (body := fun k9 q hk9 hi9 => ?_)
     obtain ⟨⟨e9, f9⟩, ys⟩ := q
     have j1 : ys = List.replicate k9 (-1) := hi9
     have j2 : ys.length = k9 := by rw [j1, List.length_replicate]
     repeat' first | refine STD ?_ | refine ST ?_ | refine ST2 ?_ | refine ST3 ?_ | intro _ | apply And.intro
     all_goals first
      | (refine gGBACK ((_, _), _) (by omega) (h := ?_)
         dsimp only
         rw [j1, List.replicate_succ'])
      | (refine newX_yes hok ⟨rfl, rfl, rfl, rfl, rfl, ?_, (show xs.length = r.seats.length by omega), i2⟩
         dsimp only
         rw [j1, show k9 = r.crew.toNat by omega])
      | trace_state
 · have hob : rulesOk r = false := by simpa using hok
   repeat' first | exact absurd ‹rulesOk r = true› hok | refine STD ?_ | refine ST ?_ | refine ST2 ?_ | refine ST3 ?_ | intro _ | apply And.intro
   all_goals first | exact newX_no hob | trace_state
instance s5Bent_c : HC 119 (∀ (W : World) (d : Kd) (p : Value), IsCur p d →Sp W [cuA d p] 119 #[p] (WRu (fun r => r.seats.length ≤ 5) [cuA d p])) := by
 refine ⟨fun W d p _ => ?_⟩
 refine gENTO (vs := [_]) Tryz.func119 (fun S0 => ?_)
 have hs9 : ∀ r : Rules, rulesOk r = true → r.seats.length ≤ 4 := fun r hr => by have := (rr_of hr).seats; omega
 repeat' first | (refine idAT ?_; refine gtP ?_; have h78 := hs9 (‹Rules› : Rules) (by assumption); refine ST ?_) | refine STD ?_ | refine ST ?_ | refine ST2 ?_ | refine ST3 ?_ | intro _ | apply And.intro
 all_goals first | (have h78 := hs9 (‹Rules› : Rules) (by assumption); dsimp only; omega) | (have h78 := hs9 (‹Rules› : Rules) (by assumption); simp; omega) | trace_state
instance sDrawHouseNew_c : HC 38 (∀ (W : World) (d : Kd) (v : Value), IsKd v d →Sp W [keepA d] 38 #[v] (WRu (fun r => r.seats.length ≤ 5) [keepA d])) := by
 refine ⟨fun W d v _ => ?_⟩
 refine gENTO (vs := [_]) Tryz.func38 (fun S0 => ?_)
 repeat' first | (refine idRN ?_; refine cCK (k := ?_)) | refine STD ?_ | refine ST ?_ | refine ST2 ?_ | intro _ | apply And.intro
 all_goals first | assumption | trace_state
end SX
end Go.Proofs.YtejojcoaohlfbaaGreat
