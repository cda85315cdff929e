/- Texts of this claim, put together by program. -/
import Derived.Test.YtejojcoaohlfbaaGreatBP
import Derived.Test.YtejojcoaohlfbaaGreatK2
import Derived.Test.YtejojcoaohlfbaaGreatKE
import Derived.Test.YtejojcoaohlfbaaGreatBF
import Derived.Test.YtejojcoaohlfbaaGreatSx9
import Derived.Test.YtejojcoaohlfbaaGreatMdlm
namespace Go.Proofs.YtejojcoaohlfbaaGreat
namespace SX
open Go Go.RowKit
set_option linter.unusedVariables false
set_option linter.unusedSimpArgs false
set_option maxRecDepth 10000
set_option maxHeartbeats 1000000
attribute [local irreducible] CD DN OPL AT QL QT CND RETG BKP HL HT HO slA slHo slP ptC pull pulls
abbrev HsL := HouseR 271 292 301
instance hSzHouse_c : HC 12 (∀ (W : World) (cs : List Value) (h : House) (left : Int), HsL W cs h → left ≤ 1048576 → 0 ≤ left →Sp W [] 12 #[.agg cs.toArray, vi left] (⟨{x : Int // 0 ≤ x → x ≤ left ∧ HouseSz h}, fun q => vi q.1, fun _ => []⟩)) := by
 refine ⟨fun W cs h left hh hl hl0 => ?_⟩
 obtain ⟨a1, c1, a2, c2, a3, c3, a4, c4, a5, c5, rfl, h1, h2, h3, h4, h5, h6, h7, h8, h9, h10⟩ := hh
 exact szHouse_c W h a1 c1 h6 a2 c2 h7 a3 c3 h8 a4 c4 h9 a5 c5 h10 left hl hl0
instance hToHouse_c : HC 15 (∀ (W : World) (cs : List Value) (h : House), HsL W cs h → HouseSz h →Sp W [] 15 #[.agg cs.toArray] (RHs h)) := by
 refine ⟨fun W cs h hh hs => ?_⟩
 obtain ⟨a1, c1, a2, c2, a3, c3, a4, c4, a5, c5, rfl, h1, h2, h3, h4, h5, h6, h7, h8, h9, h10⟩ := hh
 exact toHouse_c W h a1 c1 h6 a2 c2 h7 a3 c3 h8 a4 c4 h9 a5 c5 h10 hs
instance iHeldIntS_c : HC 26 (∀ (W : World) (l xs : List Int) (v : Value) (k : Int), Rs intL W v l → l = (markL markI xs k).1 →Sp W [] 26 #[v, vi k] (RV (vi (markL markI xs k).2))) := by
 refine ⟨fun W l xs v k ⟨a, c, e, hc, hr⟩ hm9 => ?_⟩
 subst e hm9; have hlm := hr.len
 have hl := markL_len markI xs k
 refine gENT (vs := [_, _]) Tryz.func26 ?_
 repeat' first | refine ST ?_ | intro _ | apply And.intro
 refine gFORA 5 xs.length (fun n => [(1, I n)]) (fun i n => n = (markL markI (xs.take i) k).2) k rfl fun i n hi hv => ?_
 by_cases hk : i < xs.length
 · have hat := markL_at (m := markI) xs k i hk
   have hsn := markL_snoc (m := markI) xs k i hk
   rw [← hv] at hat hsn
   repeat' first | refine ST ?_ | intro _ | apply And.intro
   all_goals first | exact hsn.symm | (exfalso; omega) | (exfalso; rename_i hne; exact hne (by rw [(List.getElem?_eq_some_iff.1 hat).2]; rfl)) | trace_state
 · repeat' first | refine ST ?_ | intro _ | apply And.intro
   all_goals first | (exfalso; omega) | (rw [hv, List.take_of_length_le (by omega)]; done) | trace_state
theorem markFacts {h : House} (hs : HouseSz h) : 0 ≤ (markL markI h.rules.seats 1).2 ∧ 0 ≤ (markL markParty h.parties (markL markI h.rules.seats 1).2).2 ∧ (markL markParty h.parties (markL markI h.rules.seats 1).2).2 + sumL cabinCnt h.cabins ≤ 4611686018427387904 ∧ 0 ≤ (markL markCabin h.cabins (markL markParty h.parties (markL markI h.rules.seats 1).2).2).2 ∧ 0 ≤ (markL markI h.todo (markL markCabin h.cabins (markL markParty h.parties (markL markI h.rules.seats 1).2).2).2).2 ∧ 0 ≤ (markL markI h.jobs (markL markI h.todo (markL markCabin h.cabins (markL markParty h.parties (markL markI h.rules.seats 1).2).2).2).2).2 ∧ (markL markI h.jobs (markL markI h.todo (markL markCabin h.cabins (markL markParty h.parties (markL markI h.rules.seats 1).2).2).2).2).2 ≤ 10000000000000 := by
 obtain ⟨h1, h2, h3, h4, h5, h6⟩ := hs
 have hc := sumL_le cabinCnt 6291461 h.cabins fun c hc => cabinCnt_le (h6 c hc)
 have hc2 : sumL cabinCnt h.cabins ≤ 6291461 * 1048576 := Nat.le_trans hc (Nat.mul_le_mul_left _ h3)
 have e1 := markL_end markI_end h.rules.seats 1 (by omega) (by rw [sumL_const]; omega)
 rw [sumL_const] at e1
 have e2 := markL_end markParty_end h.parties (markL markI h.rules.seats 1).2 (by omega) (by rw [sumL_const]; omega)
 rw [sumL_const] at e2
 have e3 := markL_end markCabin_end h.cabins (markL markParty h.parties (markL markI h.rules.seats 1).2).2 (by omega) (by omega)
 have e4 := markL_end markI_end h.todo (markL markCabin h.cabins (markL markParty h.parties (markL markI h.rules.seats 1).2).2).2 (by omega) (by rw [sumL_const]; omega)
 rw [sumL_const] at e4
 have e5 := markL_end markI_end h.jobs (markL markI h.todo (markL markCabin h.cabins (markL markParty h.parties (markL markI h.rules.seats 1).2).2).2).2 (by omega) (by rw [sumL_const]; omega)
 rw [sumL_const] at e5
 refine ⟨by omega, by omega, by omega, by omega, by omega, by omega, by omega⟩
theorem markHouse_rng {h : House} (hs : HouseSz h) : 0 ≤ (markHouse h 1).2 ∧ (markHouse h 1).2 ≤ 10000000000000 := (markFacts hs).2.2.2.2.2
end SX
end Go.Proofs.YtejojcoaohlfbaaGreat
