/- Houses that are marked: the marks are found again. -/
import Derived.Test.YtaihohlklagdgaaGreatBF
import Derived.Test.YtaihohlklagdgaaGreatSxz
import Derived.Test.YtaihohlklagdgaaGreatSx9
import Derived.Test.YtaihohlklagdgaaGreatMdlm
namespace Go.Proofs.YtaihohlklagdgaaGreat
namespace SX
open Go Go.RowKit
set_option linter.unusedVariables false
set_option linter.unusedSimpArgs false
set_option maxRecDepth 10000
set_option maxHeartbeats 1000000
attribute [local irreducible] CD DN OPL AT QL QT CND RETG BKP HL HT HO slA slHo slP ptC pull pulls
instance iHeldIntS_c : HC 23 (∀ (W : World) (l xs : List Int) (v : Value) (k : Int), Rs intL W v l → l = (markL markI xs k).1 →Sp W [] 23 #[v, vi k] (RV (vi (markL markI xs k).2))) := by
 refine ⟨fun W l xs v k ⟨a, c, e, hc, hr⟩ hm9 => ?_⟩
 subst e hm9; have hlm := hr.len
 have hl := markL_len markI xs k
 refine gENT (vs := [_, _]) Tryz.func23 ?_
 repeat' first | refine ST ?_ | intro _ | apply And.intro
 refine gFORA 5 xs.length (fun n => [(1, I n)]) (fun i n => n = (markL markI (xs.take i) k).2) k rfl fun i n hi hv => ?_
 by_cases hk : i < xs.length
 · have hat := markL_at (m := markI) xs k i hk
   have hsn := markL_snoc (m := markI) xs k i hk
   rw [← hv] at hat hsn
   repeat' first | refine ST ?_ | intro _ | apply And.intro
   all_goals first | exact hsn.symm | (exfalso; omega) | (exfalso; rename_i hne; exact hne (by rw [(List.getElem?_eq_some_iff.1 hat).2]; rfl)) | trace_state
 · repeat' first | refine ST ?_ | intro _ | apply And.intro
   all_goals first | (exfalso; omega) | (rw [hv, List.take_of_length_le (by omega)]; done) | trace_state
instance iHeldEntryS_c : HC 132 (∀ (W : World) (l xs : List Entry) (v : Value) (k : Int), Rs entryL W v l → l = (markL markEntry xs k).1 →Sp W [] 132 #[v, vi k] (RV (vi (markL markEntry xs k).2))) := by
 refine ⟨fun W l xs v k ⟨a, c, e, hc, hr⟩ hm9 => ?_⟩
 subst e hm9; have hlm := hr.len
 have hl := markL_len markEntry xs k
 refine gENT (vs := [_, _]) Tryz.func132 ?_
 repeat' first | refine ST ?_ | intro _ | apply And.intro
 refine gFORA 5 xs.length (fun n => [(1, I n)]) (fun i n => n = (markL markEntry (xs.take i) k).2) k rfl fun i n hi hv => ?_
 by_cases hk : i < xs.length
 · have hat := markL_at (m := markEntry) xs k i hk
   have hsn := markL_snoc (m := markEntry) xs k i hk
   rw [← hv] at hat hsn
   repeat' first | refine ST ?_ | intro _ | apply And.intro
   all_goals first | exact hsn.symm | (exfalso; omega) | (exfalso; rename_i hne; exact hne (by rw [(List.getElem?_eq_some_iff.1 hat).2]; rfl)) | trace_state
 · repeat' first | refine ST ?_ | intro _ | apply And.intro
   all_goals first | (exfalso; omega) | (rw [hv, List.take_of_length_le (by omega)]; done) | trace_state
instance iHeldPinS_c : HC 220 (∀ (W : World) (l xs : List Pin) (v : Value) (k : Int), Rs pinL W v l → l = (markL markPin xs k).1 →Sp W [] 220 #[v, vi k] (RV (vi (markL markPin xs k).2))) := by
 refine ⟨fun W l xs v k ⟨a, c, e, hc, hr⟩ hm9 => ?_⟩
 subst e hm9; have hlm := hr.len
 have hl := markL_len markPin xs k
 refine gENT (vs := [_, _]) Tryz.func220 ?_
 repeat' first | refine ST ?_ | intro _ | apply And.intro
 refine gFORA 5 xs.length (fun n => [(1, I n)]) (fun i n => n = (markL markPin (xs.take i) k).2) k rfl fun i n hi hv => ?_
 by_cases hk : i < xs.length
 · have hat := markL_at (m := markPin) xs k i hk
   have hsn := markL_snoc (m := markPin) xs k i hk
   rw [← hv] at hat hsn
   repeat' first | refine ST ?_ | intro _ | apply And.intro
   all_goals first | exact hsn.symm | (exfalso; omega) | (exfalso; rename_i hne; exact hne (by rw [(List.getElem?_eq_some_iff.1 hat).2]; rfl)) | trace_state
 · repeat' first | refine ST ?_ | intro _ | apply And.intro
   all_goals first | (exfalso; omega) | (rw [hv, List.take_of_length_le (by omega)]; done) | trace_state
instance iHeldPartyS_c : HC 65 (∀ (W : World) (l xs : List Party) (v : Value) (k : Int), Rs partyL W v l → l = (markL markParty xs k).1 →Sp W [] 65 #[v, vi k] (RV (vi (markL markParty xs k).2))) := by
 refine ⟨fun W l xs v k ⟨a, c, e, hc, hr⟩ hm9 => ?_⟩
 subst e hm9; have hlm := hr.len
 have hl := markL_len markParty xs k
 refine gENT (vs := [_, _]) Tryz.func65 ?_
 repeat' first | refine ST ?_ | intro _ | apply And.intro
 refine gFORA 5 xs.length (fun n => [(1, I n)]) (fun i n => n = (markL markParty (xs.take i) k).2) k rfl fun i n hi hv => ?_
 by_cases hk : i < xs.length
 · have hat := markL_at (m := markParty) xs k i hk
   have hsn := markL_snoc (m := markParty) xs k i hk
   rw [← hv] at hat hsn
   repeat' first | refine ST ?_ | intro _ | apply And.intro
   all_goals first | exact hsn.symm | (exfalso; omega) | (exfalso; rename_i hne; exact hne (by rw [(List.getElem?_eq_some_iff.1 hat).2]; rfl)) | trace_state
 · repeat' first | refine ST ?_ | intro _ | apply And.intro
   all_goals first | (exfalso; omega) | (rw [hv, List.take_of_length_le (by omega)]; done) | trace_state
instance iHeldPinSS_c : HC 133 (∀ (W : World) (l xs : List (List Pin)) (v : Value) (k : Int), Rs (sl 174 pinL) W v l → l = (markL (markL markPin) xs k).1 → 0 ≤ k → k + sumL (fun l => sumL (fun _ => 2) l) xs ≤ 4611686018427387904 →Sp W [] 133 #[v, vi k] (RV (vi (markL (markL markPin) xs k).2))) := by
 refine ⟨fun W l xs v k ⟨a, c, e, hc, hr⟩ hm9 h0 hm => ?_⟩
 subst e hm9; have hlm := hr.len
 have hl := markL_len (markL markPin) xs k
 have hE := fun i => markL_rng (m := markL markPin) (c := fun l => sumL (fun _ => 2) l) (fun l k h0 h1 => markL_end markPin_end l k h0 h1) xs k i h0 hm
 refine gENT (vs := [_, _]) Tryz.func133 ?_
 repeat' first | refine ST ?_ | intro _ | apply And.intro
 refine gFORA 5 xs.length (fun n => [(1, I n)]) (fun i n => n = (markL (markL markPin) (xs.take i) k).2) k rfl fun i n hi hv => ?_
 by_cases hk : i < xs.length
 · have hat := markL_at (m := markL markPin) xs k i hk
   have hsn := markL_snoc (m := markL markPin) xs k i hk
   have hE1 := hE (i + 1)
   rw [hsn] at hE1
   rw [← hv] at hat hsn hE1
   have hget := (List.getElem?_eq_some_iff.1 hat).2
   repeat' first | refine ST ?_ | intro _ | apply And.intro
   all_goals first | exact hsn.symm | (exfalso; omega) | trace_state
 · repeat' first | refine ST ?_ | intro _ | apply And.intro
   all_goals first | (exfalso; omega) | (rw [hv, List.take_of_length_le (by omega)]; done) | trace_state
theorem cabFacts {c : Cabin} {n : Int} (h0 : 0 ≤ n) (h1 : n + (cabinCnt c : Nat) ≤ 4611686018427387904) : 0 ≤ (markL markEntry c.row (nx (nx (nx (nx (nx n)))))).2 ∧ (markL markEntry c.row (nx (nx (nx (nx (nx n)))))).2 + sumL (fun l => sumL (fun _ => 2) l) c.wheel.spoke ≤ 4611686018427387904 ∧ 0 ≤ (markL (markL markPin) c.wheel.spoke (markL markEntry c.row (nx (nx (nx (nx (nx n)))))).2).2 := by
  have h9 := markCabin_end c n h0 h1
  simp only [cabinCnt] at h1 h9
  have e5 : nx (nx (nx (nx (nx n)))) = n + 5 := by
    have e0 : nx n = n + 1 := by rw [nx_of (by omega) (by omega)]
    have e1 : nx (n + 1) = n + 2 := by rw [nx_of (by omega) (by omega)]; omega
    have e2 : nx (n + 2) = n + 3 := by rw [nx_of (by omega) (by omega)]; omega
    have e3 : nx (n + 3) = n + 4 := by rw [nx_of (by omega) (by omega)]; omega
    have e4 : nx (n + 4) = n + 5 := by rw [nx_of (by omega) (by omega)]; omega
    rw [e0, e1, e2, e3, e4]
  simp only [markCabin, e5] at h9 ⊢
  have h3 := markL_end markEntry_end c.row (n + 5) (by omega) (by omega)
  rw [h3] at h9 ⊢
  refine ⟨by omega, by omega, by omega⟩
instance iHeldCabinS_c : HC 66 (∀ (W : World) (l xs : List Cabin) (v : Value) (k : Int), Rs (cabinLx 196 189 174) W v l → l = (markL markCabin xs k).1 → 0 ≤ k → k + sumL cabinCnt xs ≤ 4611686018427387904 →Sp W [] 66 #[v, vi k] (RV (vi (markL markCabin xs k).2))) := by
 refine ⟨fun W l xs v k ⟨a, c, e, hc, hr⟩ hm9 h0 hm => ?_⟩
 subst e hm9; have hlm := hr.len
 have hl := markL_len markCabin xs k
 refine gENT (vs := [_, _]) Tryz.func66 ?_
 repeat' first | refine ST ?_ | intro _ | apply And.intro
 refine gFORA 5 xs.length (fun n => [(1, I n)]) (fun i n => n = (markL markCabin (xs.take i) k).2) k rfl fun i n hi hv => ?_
 by_cases hk : i < xs.length
 · have hat := markL_at (m := markCabin) xs k i hk
   have hsn := markL_snoc (m := markCabin) xs k i hk
   have hE1 := markL_rng markCabin_end xs k i h0 hm
   have hE2 := markL_room markCabin_end xs k i hk h0 hm
   rw [← hv] at hat hsn hE1 hE2
   obtain ⟨f1, f2, f3⟩ := cabFacts (c := xs[i]) (n := n) (by omega) (by omega)
   have hget := (List.getElem?_eq_some_iff.1 hat).2
   have hg1 := congrArg Cabin.row hget
   have hg2 := congrArg (fun c : Cabin => c.wheel.spoke) hget
   simp only [markCabin] at hg1 hg2
   repeat' first | refine ST ?_ | intro _ | apply And.intro
   all_goals first | exact hsn.symm | (exfalso; omega) | (exfalso; rename_i hne; exact hne (by rw [hget]; rfl)) | (exfalso; rename_i hne; exact absurd hne (Int.not_lt.2 f1)) | (exfalso; rename_i hne; exact absurd hne (Int.not_lt.2 f3)) | trace_state
 · repeat' first | refine ST ?_ | intro _ | apply And.intro
   all_goals first | (exfalso; omega) | (rw [hv, List.take_of_length_le (by omega)]; done) | trace_state
theorem markFacts {h : House} (hs : HouseSz h) : 0 ≤ (markL markI h.rules.seats 1).2 ∧ 0 ≤ (markL markParty h.parties (markL markI h.rules.seats 1).2).2 ∧ (markL markParty h.parties (markL markI h.rules.seats 1).2).2 + sumL cabinCnt h.cabins ≤ 4611686018427387904 ∧ 0 ≤ (markL markCabin h.cabins (markL markParty h.parties (markL markI h.rules.seats 1).2).2).2 ∧ 0 ≤ (markL markI h.todo (markL markCabin h.cabins (markL markParty h.parties (markL markI h.rules.seats 1).2).2).2).2 ∧ 0 ≤ (markL markI h.jobs (markL markI h.todo (markL markCabin h.cabins (markL markParty h.parties (markL markI h.rules.seats 1).2).2).2).2).2 ∧ (markL markI h.jobs (markL markI h.todo (markL markCabin h.cabins (markL markParty h.parties (markL markI h.rules.seats 1).2).2).2).2).2 ≤ 10000000000000 := by
  obtain ⟨h1, h2, h3, h4, h5, h6⟩ := hs
  have hc := sumL_le cabinCnt 6291461 h.cabins fun c hc => cabinCnt_le (h6 c hc)
  have hc2 : sumL cabinCnt h.cabins ≤ 6291461 * 1048576 := Nat.le_trans hc (Nat.mul_le_mul_left _ h3)
  have e1 := markL_end markI_end h.rules.seats 1 (by omega) (by rw [sumL_const]; omega)
  rw [sumL_const] at e1
  have e2 := markL_end markParty_end h.parties (markL markI h.rules.seats 1).2 (by omega) (by rw [sumL_const]; omega)
  rw [sumL_const] at e2
  have e3 := markL_end markCabin_end h.cabins (markL markParty h.parties (markL markI h.rules.seats 1).2).2 (by omega) (by omega)
  have e4 := markL_end markI_end h.todo (markL markCabin h.cabins (markL markParty h.parties (markL markI h.rules.seats 1).2).2).2 (by omega) (by rw [sumL_const]; omega)
  rw [sumL_const] at e4
  have e5 := markL_end markI_end h.jobs (markL markI h.todo (markL markCabin h.cabins (markL markParty h.parties (markL markI h.rules.seats 1).2).2).2).2 (by omega) (by rw [sumL_const]; omega)
  rw [sumL_const] at e5
  refine ⟨by omega, by omega, by omega, by omega, by omega, by omega, by omega⟩
theorem markHouse_rng {h : House} (hs : HouseSz h) : 0 ≤ (markHouse h 1).2 ∧ (markHouse h 1).2 ≤ 10000000000000 := (markFacts hs).2.2.2.2.2
theorem markTail_nn {h : House} {l : List Int} (hs : HouseSz h) (hl : l.length ≤ 1048576) : 0 ≤ (markL markI l (markHouse h 1).2).2 := by
  obtain ⟨h1, h2⟩ := markHouse_rng hs
  rw [markL_end markI_end l _ h1 (by rw [sumL_const]; omega)]; omega
instance iHeldRules_c : HC 64 (∀ (W : World) (cs : List Value) (r : Rules) (l : List Int) (k : Int), RulesR W cs r → r.seats = (markL markI l k).1 → 0 ≤ (markL markI l k).2 →Sp W [] 64 #[.agg cs.toArray, vi k] (RV (vi (markL markI l k).2))) := by
 refine ⟨fun W cs r l k hr hm h0 => ?_⟩
 obtain ⟨a, c, rfl, hc, h⟩ := id hr
 refine gENT (vs := [_, _]) Tryz.func64 ?_
 rw [hm] at h hc ⊢
 repeat' first | refine ST ?_ | intro _ | apply And.intro
 all_goals first | rfl | (exfalso; omega) | trace_state
instance iHeldHouse_c : HC 16 (∀ (W : World) (cs : List Value) (x h : House), HsR W cs x → x = (markHouse h 1).1 → HouseSz h →Sp W [] 16 #[.agg cs.toArray, vi 1] (RV (vi (markHouse h 1).2))) := by
 refine ⟨fun W cs x h hh hm hs => ?_⟩
 obtain ⟨f1, f2, f3, f4, f5, f6, f7⟩ := markFacts hs
 subst hm
 have g1 : (markHouse h 1).1.rules.seats = (markL markI h.rules.seats 1).1 := rfl
 have g2 : (markHouse h 1).1.parties = (markL markParty h.parties (markL markI h.rules.seats 1).2).1 := rfl
 have g3 : (markHouse h 1).1.cabins = (markL markCabin h.cabins (markL markParty h.parties (markL markI h.rules.seats 1).2).2).1 := rfl
 have g4 : (markHouse h 1).1.todo = (markL markI h.todo (markL markCabin h.cabins (markL markParty h.parties (markL markI h.rules.seats 1).2).2).2).1 := rfl
 have g5 : (markHouse h 1).1.jobs = (markL markI h.jobs (markL markI h.todo (markL markCabin h.cabins (markL markParty h.parties (markL markI h.rules.seats 1).2).2).2).2).1 := rfl
 have hh1 := hh; obtain ⟨a1, c1, a2, c2, a3, c3, a4, c4, a5, c5, rfl, h1, h2, h3, h4, h5, h6, h7, h8, h9, h10⟩ := hh
 refine gENT (vs := [_, _]) Tryz.func16 ?_
 repeat' first | refine ST ?_ | intro _ | apply And.intro
 all_goals first | rfl | (exfalso; omega) | trace_state
end SX
end Go.Proofs.YtaihohlklagdgaaGreat
