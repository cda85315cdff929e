/- Walks, printed by program. -/
import Derived.Test.YtgbfemglimebdaaGreatMdlm
import Derived.Test.YtgbfemglimebdaaGreatSxd
import Derived.Test.YtgbfemglimebdaaGreatSxe
import Derived.Test.YtgbfemglimebdaaGreatSxc
import Derived.Test.YtgbfemglimebdaaGreatProg
namespace Go.Proofs.YtgbfemglimebdaaGreat
namespace SX
open Go Go.RowKit
set_option linter.unusedVariables false
set_option linter.unusedSimpArgs false
set_option maxRecDepth 10000
set_option maxHeartbeats 400000
theorem szIntS_c (W : World) (a : List Int) (a_a : Option Addr) (a_c : Nat) (ha : Rd intL W a_a a) (left : Int) (hl : left ≤ 1048576) (hl0 : 0 ≤ left) : Spec Tryz.prog W [] 25 #[.slice a_a a.length a_c, vi left] (⟨{x : Int // 0 ≤ x → x + ((a).length : Int) ≤ left}, fun q => vi q.1, fun q => []⟩) := by
 refine ENTER0 (N := 12) (vs := [.slice a_a a.length a_c, vi left]) Tryz.func25 rfl rfl (NL rfl) ?_
 have hal9 := ha.len; have hwl : wr (left - (a.length : Int)) = left - (a.length : Int) := wr_of (by omega) (by omega)
 have ha_len := ha.len
 refine SEQ (REGION [0] rfl (RU 1 [] [] (by kernel_rfl) rfl (ENDOPS (NEXT (SEQ (REGION [0, 1, 2, 3, 4] rfl (RU 5 [] [(1, I (wr (left - (a.length : Int))))] (by kernel_rfl) rfl (ENDOPS (NEXT (SEQ (SEQ (REGION [0, 1] rfl (RU 2 [] [(10, B (decide ((wr (left - (a.length : Int))) < 0)))] (by kernel_rfl) rfl (ENDOPS (NEXT (IF (decide ((wr (left - (a.length : Int))) < 0)) (by kernel_rfl) (fun bh1 => ?_) (fun bh1 => ?_)))))))))))))))))
 ·
  have h1 := bh1
  have h1 := of_decide_eq_true h1
  refine SEQ (REGION [0] rfl (RU 1 [] [(4, I (-1))] (by kernel_rfl) rfl (ENDOPS (NEXT (RET (PASS trivial (FIN (vi (-1)) (by kernel_rfl) ⟨-1, (by intro h9; omega)⟩ ?_ [] ?_)))))))
  · rfl
  · rfl
 ·
  have h1 := bh1
  have h1 := of_decide_eq_false h1
  refine SKIP (NEXT (SEQ (REGION [0, 1] rfl (RU 2 [] [(4, I (wr (left - (a.length : Int))))] (by kernel_rfl) rfl (ENDOPS (NEXT (RET (FIN (vi (wr (left - (a.length : Int)))) (by kernel_rfl) ⟨wr (left - (a.length : Int)), (by intro h9; omega)⟩ ?_ [] ?_))))))))
  · rfl
  · rfl

theorem szRules_c (W : World) (a : Rules) (a_seats_a : Option Addr) (a_seats_c : Nat) (ha_seats : Rd intL W a_seats_a a.seats) (left : Int) (hl : left ≤ 1048576) (hl0 : 0 ≤ left) : Spec Tryz.prog W [] 22 #[.agg #[.slice a_seats_a a.seats.length a_seats_c, vi a.tiers, vi a.room, vi a.size, vi a.period, vi a.window, vi a.rest, vi a.tries, vi a.crew], vi left] (⟨{x : Int // 0 ≤ x → x + ((a).seats.length : Int) ≤ left}, fun q => vi q.1, fun q => []⟩) := by
 refine ENTER0 (N := 12) (vs := [.agg #[.slice a_seats_a a.seats.length a_seats_c, vi a.tiers, vi a.room, vi a.size, vi a.period, vi a.window, vi a.rest, vi a.tries, vi a.crew], vi left]) Tryz.func22 rfl rfl (NL rfl) ?_
 have ha_seats_len := ha_seats.len
 refine SEQ (REGION [0, 1] rfl (RUL 2 [] [(2, .p 0 0)] [(24, [.slice a_seats_a a.seats.length a_seats_c, vi a.tiers, vi a.room, vi a.size, vi a.period, vi a.window, vi a.rest, vi a.tries, vi a.crew])] (by kernel_rfl) rfl (ENDOPS (NEXT (SEQ (REGION [0, 1, 2, 3, 4] rfl (RU 3 [3, 4] [(6, .v (.slice a_seats_a a.seats.length a_seats_c)), (7, I left)] (by kernel_rfl) rfl (OPC (CALL 25 #[.slice a_seats_a a.seats.length a_seats_c, vi left] (some 8) (by kernel_rfl) [] [] _ rfl (⟨{x : Int // 0 ≤ x → x + ((a.seats).length : Int) ≤ left}, fun q => vi q.1, fun q => []⟩) (fun w hw => szIntS_c w a.seats a_seats_a a_seats_c (ha_seats.fr hw.fr) left (by first | assumption | omega) (by first | assumption | omega)) (NO rfl) ?_)))))))))
 rintro ⟨m1, hm2⟩
 try dsimp only at hm2
 refine RU 1 [] [(1, I m1)] (by kernel_rfl) rfl (ENDOPS (NEXT (SEQ (SEQ (REGION [0, 1] rfl (RU 2 [] [(10, B (decide (m1 < 0)))] (by kernel_rfl) rfl (ENDOPS (NEXT (IF (decide (m1 < 0)) (by kernel_rfl) (fun bh3 => ?_) (fun bh3 => ?_))))))))))
 ·
  have h3 := bh3
  have h3 := of_decide_eq_true h3
  refine SEQ (REGION [0] rfl (RU 1 [] [(4, I (-1))] (by kernel_rfl) rfl (ENDOPS (NEXT (RET (PASS trivial (FIN (vi (-1)) (by kernel_rfl) ⟨-1, (by intro h9; first | omega | (dsimp only at *; omega))⟩ ?_ [] ?_)))))))
  · rfl
  · rfl
 ·
  have h3 := bh3
  have h3 := of_decide_eq_false h3
  refine SKIP (NEXT (SEQ (REGION [0, 1] rfl (RU 2 [] [(4, I m1)] (by kernel_rfl) rfl (ENDOPS (NEXT (RET (FIN (vi m1) (by kernel_rfl) ⟨m1, (by intro h9; first | omega | (dsimp only at *; omega))⟩ ?_ [] ?_))))))))
  · rfl
  · rfl

theorem szPartyS_c (W : World) (a : List Party) (a_a : Option Addr) (a_c : Nat) (ha : Rd partyL W a_a a) (left : Int) (hl : left ≤ 1048576) (hl0 : 0 ≤ left) : Spec Tryz.prog W [] 23 #[.slice a_a a.length a_c, vi left] (⟨{x : Int // 0 ≤ x → x + ((a).length : Int) ≤ left}, fun q => vi q.1, fun q => []⟩) := by
 refine ENTER0 (N := 12) (vs := [.slice a_a a.length a_c, vi left]) Tryz.func23 rfl rfl (NL rfl) ?_
 have hal9 := ha.len; have hwl : wr (left - (a.length : Int)) = left - (a.length : Int) := wr_of (by omega) (by omega)
 have ha_len := ha.len
 refine SEQ (REGION [0] rfl (RU 1 [] [] (by kernel_rfl) rfl (ENDOPS (NEXT (SEQ (REGION [0, 1, 2, 3, 4] rfl (RU 5 [] [(1, I (wr (left - (a.length : Int))))] (by kernel_rfl) rfl (ENDOPS (NEXT (SEQ (SEQ (REGION [0, 1] rfl (RU 2 [] [(10, B (decide ((wr (left - (a.length : Int))) < 0)))] (by kernel_rfl) rfl (ENDOPS (NEXT (IF (decide ((wr (left - (a.length : Int))) < 0)) (by kernel_rfl) (fun bh1 => ?_) (fun bh1 => ?_)))))))))))))))))
 ·
  have h1 := bh1
  have h1 := of_decide_eq_true h1
  refine SEQ (REGION [0] rfl (RU 1 [] [(4, I (-1))] (by kernel_rfl) rfl (ENDOPS (NEXT (RET (PASS trivial (FIN (vi (-1)) (by kernel_rfl) ⟨-1, (by intro h9; omega)⟩ ?_ [] ?_)))))))
  · rfl
  · rfl
 ·
  have h1 := bh1
  have h1 := of_decide_eq_false h1
  refine SKIP (NEXT (SEQ (REGION [0, 1] rfl (RU 2 [] [(4, I (wr (left - (a.length : Int))))] (by kernel_rfl) rfl (ENDOPS (NEXT (RET (FIN (vi (wr (left - (a.length : Int)))) (by kernel_rfl) ⟨wr (left - (a.length : Int)), (by intro h9; omega)⟩ ?_ [] ?_))))))))
  · rfl
  · rfl

theorem szEntryS_c (W : World) (a : List Entry) (a_a : Option Addr) (a_c : Nat) (ha : Rd entryL W a_a a) (left : Int) (hl : left ≤ 1048576) (hl0 : 0 ≤ left) : Spec Tryz.prog W [] 90 #[.slice a_a a.length a_c, vi left] (⟨{x : Int // 0 ≤ x → x + ((a).length : Int) ≤ left}, fun q => vi q.1, fun q => []⟩) := by
 refine ENTER0 (N := 12) (vs := [.slice a_a a.length a_c, vi left]) Tryz.func90 rfl rfl (NL rfl) ?_
 have hal9 := ha.len; have hwl : wr (left - (a.length : Int)) = left - (a.length : Int) := wr_of (by omega) (by omega)
 have ha_len := ha.len
 refine SEQ (REGION [0] rfl (RU 1 [] [] (by kernel_rfl) rfl (ENDOPS (NEXT (SEQ (REGION [0, 1, 2, 3, 4] rfl (RU 5 [] [(1, I (wr (left - (a.length : Int))))] (by kernel_rfl) rfl (ENDOPS (NEXT (SEQ (SEQ (REGION [0, 1] rfl (RU 2 [] [(10, B (decide ((wr (left - (a.length : Int))) < 0)))] (by kernel_rfl) rfl (ENDOPS (NEXT (IF (decide ((wr (left - (a.length : Int))) < 0)) (by kernel_rfl) (fun bh1 => ?_) (fun bh1 => ?_)))))))))))))))))
 ·
  have h1 := bh1
  have h1 := of_decide_eq_true h1
  refine SEQ (REGION [0] rfl (RU 1 [] [(4, I (-1))] (by kernel_rfl) rfl (ENDOPS (NEXT (RET (PASS trivial (FIN (vi (-1)) (by kernel_rfl) ⟨-1, (by intro h9; omega)⟩ ?_ [] ?_)))))))
  · rfl
  · rfl
 ·
  have h1 := bh1
  have h1 := of_decide_eq_false h1
  refine SKIP (NEXT (SEQ (REGION [0, 1] rfl (RU 2 [] [(4, I (wr (left - (a.length : Int))))] (by kernel_rfl) rfl (ENDOPS (NEXT (RET (FIN (vi (wr (left - (a.length : Int)))) (by kernel_rfl) ⟨wr (left - (a.length : Int)), (by intro h9; omega)⟩ ?_ [] ?_))))))))
  · rfl
  · rfl

theorem szPinS_c (W : World) (a : List Pin) (a_a : Option Addr) (a_c : Nat) (ha : Rd pinL W a_a a) (left : Int) (hl : left ≤ 1048576) (hl0 : 0 ≤ left) : Spec Tryz.prog W [] 194 #[.slice a_a a.length a_c, vi left] (⟨{x : Int // 0 ≤ x → x + ((a).length : Int) ≤ left}, fun q => vi q.1, fun q => []⟩) := by
 refine ENTER0 (N := 12) (vs := [.slice a_a a.length a_c, vi left]) Tryz.func194 rfl rfl (NL rfl) ?_
 have hal9 := ha.len; have hwl : wr (left - (a.length : Int)) = left - (a.length : Int) := wr_of (by omega) (by omega)
 have ha_len := ha.len
 refine SEQ (REGION [0] rfl (RU 1 [] [] (by kernel_rfl) rfl (ENDOPS (NEXT (SEQ (REGION [0, 1, 2, 3, 4] rfl (RU 5 [] [(1, I (wr (left - (a.length : Int))))] (by kernel_rfl) rfl (ENDOPS (NEXT (SEQ (SEQ (REGION [0, 1] rfl (RU 2 [] [(10, B (decide ((wr (left - (a.length : Int))) < 0)))] (by kernel_rfl) rfl (ENDOPS (NEXT (IF (decide ((wr (left - (a.length : Int))) < 0)) (by kernel_rfl) (fun bh1 => ?_) (fun bh1 => ?_)))))))))))))))))
 ·
  have h1 := bh1
  have h1 := of_decide_eq_true h1
  refine SEQ (REGION [0] rfl (RU 1 [] [(4, I (-1))] (by kernel_rfl) rfl (ENDOPS (NEXT (RET (PASS trivial (FIN (vi (-1)) (by kernel_rfl) ⟨-1, (by intro h9; omega)⟩ ?_ [] ?_)))))))
  · rfl
  · rfl
 ·
  have h1 := bh1
  have h1 := of_decide_eq_false h1
  refine SKIP (NEXT (SEQ (REGION [0, 1] rfl (RU 2 [] [(4, I (wr (left - (a.length : Int))))] (by kernel_rfl) rfl (ENDOPS (NEXT (RET (FIN (vi (wr (left - (a.length : Int)))) (by kernel_rfl) ⟨wr (left - (a.length : Int)), (by intro h9; omega)⟩ ?_ [] ?_))))))))
  · rfl
  · rfl

theorem szPinSS_c (W : World) (a : List (List Pin)) (a_a : Option Addr) (a_c : Nat) (ha : Rd (sl 202 pinL) W a_a a) (left : Int) (hl : left ≤ 1048576) (hl0 : 0 ≤ left) : Spec Tryz.prog W [] 146 #[.slice a_a a.length a_c, vi left] (⟨{x : Int // 0 ≤ x → x + ((a).length : Int) + ((a).flatten.length : Int) ≤ left}, fun q => vi q.1, fun q => []⟩) := by
 refine ENTER0 (N := 27) (vs := [.slice a_a a.length a_c, vi left]) Tryz.func146 rfl rfl (NL rfl) ?_
 have hal9 := ha.len; have hwl : wr (left - (a.length : Int)) = left - (a.length : Int) := wr_of (by omega) (by omega)
 have ha_len := ha.len
 refine SEQ (REGION [0] rfl (RU 1 [] [] (by kernel_rfl) rfl (ENDOPS (NEXT (SEQ (REGION [0, 1, 2, 3, 4] rfl (RU 5 [] [(1, I (wr (left - (a.length : Int))))] (by kernel_rfl) rfl (ENDOPS (NEXT (SEQ (SEQ (REGION [0, 1] rfl (RU 2 [] [(11, B (decide ((wr (left - (a.length : Int))) < 0)))] (by kernel_rfl) rfl (ENDOPS (NEXT (IF (decide ((wr (left - (a.length : Int))) < 0)) (by kernel_rfl) (fun bh1 => ?_) (fun bh1 => ?_)))))))))))))))))
 ·
  have h1 := bh1
  have h1 := of_decide_eq_true h1
  refine SEQ (REGION [0] rfl (RU 1 [] [(4, I (-1))] (by kernel_rfl) rfl (ENDOPS (NEXT (RET (PASS trivial (FIN (vi (-1)) (by kernel_rfl) ⟨-1, (by intro h9; first | omega | (rw [List.take_of_length_le (by simp at hk; omega)] at hv1; omega))⟩ ?_ [] ?_)))))))
  · rfl
  · rfl
 ·
  have h1 := bh1
  have h1 := of_decide_eq_false h1
  refine SKIP (NEXT (SEQ (SEQ (REGION [0] rfl (RU 1 [] [(5, I 0)] (by kernel_rfl) rfl (ENDOPS (NEXT (BLOCK (LOOP (ι := Nat × (List (List Pin)) × Int) (fun j => [(0, .v (.slice a_a a.length a_c)), (1, I j.2.2), (5, I (j.1 : Int))]) (fun j => []) (fun j => []) (fun j => j.1 + j.2.1.length = a.length ∧ a.drop j.1 = j.2.1 ∧ 0 ≤ j.2.2 ∧ j.2.2 + (a.length : Int) + ((a.take j.1).flatten.length : Int) ≤ left) (fun j => j.2.1.length) (0, a, wr (left - (a.length : Int))) [0, 1, 5] ⟨by simp, rfl, by dsimp only; omega, by simp only [List.take_zero, List.flatten_nil, List.length_nil]; omega⟩ (by kernel_rfl) rfl rfl ?_)))))))))
  rintro ⟨k, ys, lf⟩ ⟨hk, hd, hv0, hv1⟩
  try dsimp only at hk hd hv0 hv1
  refine SEQ (SEQ (REGION [0, 1, 2, 3] rfl (RU 4 [] [(15, B (decide ((k : Int) < (a.length : Int))))] (by kernel_rfl) rfl (ENDOPS (NEXT (IF (decide ((k : Int) < (a.length : Int))) (by kernel_rfl) (fun bh2 => ?_) (fun bh2 => ?_)))))))
  ·
   have h2 := bh2
   have h2 := of_decide_eq_true h2
   obtain ⟨y3, ys4, rfl, hx_y3, hd_y3, hl_y3⟩ := drop_cons hd hk (by omega)
   refine SKIP (NEXT (SEQ (BLOCK (SEQ (REGION [0, 1, 2, 3, 4, 5, 6] rfl (RU 2 [2, 3, 4, 5, 6] [(18, .v (.slice a_a a.length a_c)), (19, I (k : Int))] (by kernel_rfl) rfl ?_))))))
   obtain ⟨a5, c6, hel8, hi7, hi7_cap⟩ := sl_view ha hx_y3
   have hi7_len := hi7.len
   refine OPC (INDEX 82 (.tmp 18) (.tmp 19) 20 0 (by kernel_rfl) (NL rfl) a_a a.length a_c .i64 (k : Int) 189 1 (by kernel_rfl) (by kernel_rfl) (by kernel_rfl) (by kernel_rfl) (Rd.some ha (by omega)) (by omega) (by omega) (OPC (LOADE 189 (.tmp 20) 21 189 (by kernel_rfl) (NL rfl) a_a (k * 1) 0 ([.slice a5 y3.length c6]) (.slice a5 y3.length c6) (by kernel_rfl) (fun w hw => hel8.fr hw.fr) (by kernel_rfl) (RU 1 [5, 6] [(22, I lf)] (by kernel_rfl) rfl (OPC (CALL 194 #[.slice a5 y3.length c6, vi lf] (some 23) (by kernel_rfl) [] [] _ rfl (⟨{x : Int // 0 ≤ x → x + ((y3).length : Int) ≤ lf}, fun q => vi q.1, fun q => []⟩) (fun w hw => szPinS_c w y3 a5 c6 (hi7.fr hw.fr) lf (by first | assumption | omega) (by first | assumption | omega)) (NO rfl) ?_))))))
   rintro ⟨m9, hm10⟩
   try dsimp only at hm10
   refine RU 1 [] [(1, I m9)] (by kernel_rfl) rfl (ENDOPS (NEXT (SEQ (REGION [0, 1] rfl (RU 2 [] [(25, B (decide (m9 < 0)))] (by kernel_rfl) rfl (ENDOPS (NEXT (IF (decide (m9 < 0)) (by kernel_rfl) (fun bh11 => ?_) (fun bh11 => ?_)))))))))
   ·
    have h11 := bh11
    have h11 := of_decide_eq_true h11
    refine SEQ (REGION [0] rfl (RU 1 [] [(4, I (-1))] (by kernel_rfl) rfl (ENDOPS (NEXT (RET (OUTR (PASS trivial (PASS trivial (OUTR (PASS trivial (FIN (vi (-1)) (by kernel_rfl) ⟨-1, (by intro h9; first | omega | (rw [List.take_of_length_le (by simp at hk; omega)] at hv1; omega))⟩ ?_ [] ?_)))))))))))
    · rfl
    · rfl
   ·
    have h11 := bh11
    have h11 := of_decide_eq_false h11
    refine SKIP (OUTN (NEXT (REGION [0, 1, 2] rfl (RU 2 [2] [(17, I (wr ((k : Int) + 1)))] (by kernel_rfl) rfl (CAST (d := 17) (vi (wr ((k : Int) + 1))) (vi ((k + 1 : Nat) : Int)) (by kernel_rfl) (vi_cast (by omega) (by omega)) (RU 1 [] [(5, I ((k + 1 : Nat) : Int))] (by kernel_rfl) rfl (ENDOPS (BACK (k + 1, ys4, m9) [0, 1, 5] 0 [] _ ⟨hl_y3, hd_y3, (by first | omega | (dsimp only; omega)), (by rw [flat_take hx_y3, List.length_append]; dsimp only; omega)⟩ (by simp) (by kernel_rfl) rfl rfl rfl))))))))
  ·
   have h2 := bh2
   have h2 := of_decide_eq_false h2
   obtain rfl := drop_nil hk (by omega)
   refine EXIT (PASS trivial (PASS trivial (OUT (NEXT (SEQ (REGION [0, 1] rfl (RU 2 [] [(4, I lf)] (by kernel_rfl) rfl (ENDOPS (NEXT (RET (FIN (vi lf) (by kernel_rfl) ⟨lf, (by intro h9; first | omega | (rw [List.take_of_length_le (by simp at hk; omega)] at hv1; omega))⟩ ?_ [] ?_)))))))))))
   · rfl
   · rfl

theorem szWheel_c (W : World) (a : Wheel) (a_spoke_a : Option Addr) (a_spoke_c : Nat) (ha_spoke : Rd (sl 202 pinL) W a_spoke_a a.spoke) (left : Int) (hl : left ≤ 1048576) (hl0 : 0 ≤ left) : Spec Tryz.prog W [] 91 #[.agg #[.slice a_spoke_a a.spoke.length a_spoke_c], vi left] (⟨{x : Int // 0 ≤ x → x + ((a).spoke.length : Int) + ((a).spoke.flatten.length : Int) ≤ left}, fun q => vi q.1, fun q => []⟩) := by
 refine ENTER0 (N := 12) (vs := [.agg #[.slice a_spoke_a a.spoke.length a_spoke_c], vi left]) Tryz.func91 rfl rfl (NL rfl) ?_
 have ha_spoke_len := ha_spoke.len
 refine SEQ (REGION [0, 1] rfl (RUL 2 [] [(2, .p 0 0)] [(84, [.slice a_spoke_a a.spoke.length a_spoke_c])] (by kernel_rfl) rfl (ENDOPS (NEXT (SEQ (REGION [0, 1, 2, 3, 4] rfl (RU 3 [3, 4] [(6, .v (.slice a_spoke_a a.spoke.length a_spoke_c)), (7, I left)] (by kernel_rfl) rfl (OPC (CALL 146 #[.slice a_spoke_a a.spoke.length a_spoke_c, vi left] (some 8) (by kernel_rfl) [] [] _ rfl (⟨{x : Int // 0 ≤ x → x + ((a.spoke).length : Int) + ((a.spoke).flatten.length : Int) ≤ left}, fun q => vi q.1, fun q => []⟩) (fun w hw => szPinSS_c w a.spoke a_spoke_a a_spoke_c (ha_spoke.fr hw.fr) left (by first | assumption | omega) (by first | assumption | omega)) (NO rfl) ?_)))))))))
 rintro ⟨m1, hm2⟩
 try dsimp only at hm2
 refine RU 1 [] [(1, I m1)] (by kernel_rfl) rfl (ENDOPS (NEXT (SEQ (SEQ (REGION [0, 1] rfl (RU 2 [] [(10, B (decide (m1 < 0)))] (by kernel_rfl) rfl (ENDOPS (NEXT (IF (decide (m1 < 0)) (by kernel_rfl) (fun bh3 => ?_) (fun bh3 => ?_))))))))))
 ·
  have h3 := bh3
  have h3 := of_decide_eq_true h3
  refine SEQ (REGION [0] rfl (RU 1 [] [(4, I (-1))] (by kernel_rfl) rfl (ENDOPS (NEXT (RET (PASS trivial (FIN (vi (-1)) (by kernel_rfl) ⟨-1, (by intro h9; first | omega | (dsimp only at *; omega))⟩ ?_ [] ?_)))))))
  · rfl
  · rfl
 ·
  have h3 := bh3
  have h3 := of_decide_eq_false h3
  refine SKIP (NEXT (SEQ (REGION [0, 1] rfl (RU 2 [] [(4, I m1)] (by kernel_rfl) rfl (ENDOPS (NEXT (RET (FIN (vi m1) (by kernel_rfl) ⟨m1, (by intro h9; first | omega | (dsimp only at *; omega))⟩ ?_ [] ?_))))))))
  · rfl
  · rfl

theorem szCabin_c (W : World) (a : Cabin) (a_row_a : Option Addr) (a_row_c : Nat) (ha_row : Rd entryL W a_row_a a.row) (a_wheel_spoke_a : Option Addr) (a_wheel_spoke_c : Nat) (ha_wheel_spoke : Rd (sl 202 pinL) W a_wheel_spoke_a a.wheel.spoke) (left : Int) (hl : left ≤ 1048576) (hl0 : 0 ≤ left) : Spec Tryz.prog W [] 57 #[.agg #[vi a.seats.total, vi a.seats.free, vi a.seats.held, vi a.seats.sold, vi a.seats.tied, .slice a_row_a a.row.length a_row_c, .slice a_wheel_spoke_a a.wheel.spoke.length a_wheel_spoke_c], vi left] (⟨{x : Int // 0 ≤ x → x + ((a).row.length : Int) + ((a).wheel.spoke.length : Int) + ((a).wheel.spoke.flatten.length : Int) ≤ left}, fun q => vi q.1, fun q => []⟩) := by
 refine ENTER0 (N := 18) (vs := [.agg #[vi a.seats.total, vi a.seats.free, vi a.seats.held, vi a.seats.sold, vi a.seats.tied, .slice a_row_a a.row.length a_row_c, .slice a_wheel_spoke_a a.wheel.spoke.length a_wheel_spoke_c], vi left]) Tryz.func57 rfl rfl (NL rfl) ?_
 have ha_row_len := ha_row.len
 have ha_wheel_spoke_len := ha_wheel_spoke.len
 refine SEQ (REGION [0, 1] rfl (RUL 2 [] [(2, .p 0 0)] [(86, [vi a.seats.total, vi a.seats.free, vi a.seats.held, vi a.seats.sold, vi a.seats.tied, .slice a_row_a a.row.length a_row_c, .slice a_wheel_spoke_a a.wheel.spoke.length a_wheel_spoke_c])] (by kernel_rfl) rfl (ENDOPS (NEXT (SEQ (REGION [0, 1, 2, 3, 4] rfl (RU 3 [3, 4] [(6, .v (.slice a_row_a a.row.length a_row_c)), (7, I left)] (by kernel_rfl) rfl (OPC (CALL 90 #[.slice a_row_a a.row.length a_row_c, vi left] (some 8) (by kernel_rfl) [] [] _ rfl (⟨{x : Int // 0 ≤ x → x + ((a.row).length : Int) ≤ left}, fun q => vi q.1, fun q => []⟩) (fun w hw => szEntryS_c w a.row a_row_a a_row_c (ha_row.fr hw.fr) left (by first | assumption | omega) (by first | assumption | omega)) (NO rfl) ?_)))))))))
 rintro ⟨m1, hm2⟩
 try dsimp only at hm2
 refine RU 1 [] [(1, I m1)] (by kernel_rfl) rfl (ENDOPS (NEXT (SEQ (SEQ (REGION [0, 1] rfl (RU 2 [] [(10, B (decide (m1 < 0)))] (by kernel_rfl) rfl (ENDOPS (NEXT (IF (decide (m1 < 0)) (by kernel_rfl) (fun bh3 => ?_) (fun bh3 => ?_))))))))))
 ·
  have h3 := bh3
  have h3 := of_decide_eq_true h3
  refine SEQ (REGION [0] rfl (RU 1 [] [(4, I (-1))] (by kernel_rfl) rfl (ENDOPS (NEXT (RET (PASS trivial (FIN (vi (-1)) (by kernel_rfl) ⟨-1, (by intro h9; first | omega | (dsimp only at *; omega))⟩ ?_ [] ?_)))))))
  · rfl
  · rfl
 ·
  have h3 := bh3
  have h3 := of_decide_eq_false h3
  refine SKIP (NEXT (SEQ (REGION [0, 1, 2, 3, 4] rfl (RU 3 [3, 4] [(12, .v (.agg #[.slice a_wheel_spoke_a a.wheel.spoke.length a_wheel_spoke_c])), (13, I m1)] (by kernel_rfl) rfl (OPC (CALL 91 #[.agg #[.slice a_wheel_spoke_a a.wheel.spoke.length a_wheel_spoke_c], vi m1] (some 14) (by kernel_rfl) [] [] _ rfl (⟨{x : Int // 0 ≤ x → x + ((a.wheel).spoke.length : Int) + ((a.wheel).spoke.flatten.length : Int) ≤ m1}, fun q => vi q.1, fun q => []⟩) (fun w hw => szWheel_c w a.wheel a_wheel_spoke_a a_wheel_spoke_c (ha_wheel_spoke.fr hw.fr) m1 (by first | assumption | omega) (by first | assumption | omega)) (NO rfl) ?_))))))
  rintro ⟨m4, hm5⟩
  try dsimp only at hm5
  refine RU 1 [] [(1, I m4)] (by kernel_rfl) rfl (ENDOPS (NEXT (SEQ (SEQ (REGION [0, 1] rfl (RU 2 [] [(16, B (decide (m4 < 0)))] (by kernel_rfl) rfl (ENDOPS (NEXT (IF (decide (m4 < 0)) (by kernel_rfl) (fun bh6 => ?_) (fun bh6 => ?_))))))))))
  ·
   have h6 := bh6
   have h6 := of_decide_eq_true h6
   refine SEQ (REGION [0] rfl (RU 1 [] [(4, I (-1))] (by kernel_rfl) rfl (ENDOPS (NEXT (RET (PASS trivial (FIN (vi (-1)) (by kernel_rfl) ⟨-1, (by intro h9; first | omega | (dsimp only at *; omega))⟩ ?_ [] ?_)))))))
   · rfl
   · rfl
  ·
   have h6 := bh6
   have h6 := of_decide_eq_false h6
   refine SKIP (NEXT (SEQ (REGION [0, 1] rfl (RU 2 [] [(4, I m4)] (by kernel_rfl) rfl (ENDOPS (NEXT (RET (FIN (vi m4) (by kernel_rfl) ⟨m4, (by intro h9; first | omega | (dsimp only at *; omega))⟩ ?_ [] ?_))))))))
   · rfl
   · rfl

theorem szCabinS_c (W : World) (a : List Cabin) (a_a : Option Addr) (a_c : Nat) (ha : Rd (cabinLx 156 189 202) W a_a a) (left : Int) (hl : left ≤ 1048576) (hl0 : 0 ≤ left) : Spec Tryz.prog W [] 24 #[.slice a_a a.length a_c, vi left] (⟨{x : Int // 0 ≤ x → x + ((a).length : Int) ≤ left ∧ ∀ c ∈ a, CabinSz c}, fun q => vi q.1, fun q => []⟩) := by
 refine ENTER0 (N := 27) (vs := [.slice a_a a.length a_c, vi left]) Tryz.func24 rfl rfl (NL rfl) ?_
 have hal9 := ha.len; have hwl : wr (left - (a.length : Int)) = left - (a.length : Int) := wr_of (by omega) (by omega)
 have ha_len := ha.len
 refine SEQ (REGION [0] rfl (RU 1 [] [] (by kernel_rfl) rfl (ENDOPS (NEXT (SEQ (REGION [0, 1, 2, 3, 4] rfl (RU 5 [] [(1, I (wr (left - (a.length : Int))))] (by kernel_rfl) rfl (ENDOPS (NEXT (SEQ (SEQ (REGION [0, 1] rfl (RU 2 [] [(11, B (decide ((wr (left - (a.length : Int))) < 0)))] (by kernel_rfl) rfl (ENDOPS (NEXT (IF (decide ((wr (left - (a.length : Int))) < 0)) (by kernel_rfl) (fun bh1 => ?_) (fun bh1 => ?_)))))))))))))))))
 ·
  have h1 := bh1
  have h1 := of_decide_eq_true h1
  refine SEQ (REGION [0] rfl (RU 1 [] [(4, I (-1))] (by kernel_rfl) rfl (ENDOPS (NEXT (RET (PASS trivial (FIN (vi (-1)) (by kernel_rfl) ⟨-1, (by intro h9; first | omega | (rw [List.take_of_length_le (by simp at hk; omega)] at hv1; exact ⟨by omega, hv1.2⟩))⟩ ?_ [] ?_)))))))
  · rfl
  · rfl
 ·
  have h1 := bh1
  have h1 := of_decide_eq_false h1
  refine SKIP (NEXT (SEQ (SEQ (REGION [0] rfl (RU 1 [] [(5, I 0)] (by kernel_rfl) rfl (ENDOPS (NEXT (BLOCK (LOOP (ι := Nat × (List Cabin) × Int) (fun j => [(0, .v (.slice a_a a.length a_c)), (1, I j.2.2), (5, I (j.1 : Int))]) (fun j => []) (fun j => []) (fun j => j.1 + j.2.1.length = a.length ∧ a.drop j.1 = j.2.1 ∧ 0 ≤ j.2.2 ∧ (j.2.2 + (a.length : Int) ≤ left ∧ ∀ c ∈ a.take j.1, CabinSz c)) (fun j => j.2.1.length) (0, a, wr (left - (a.length : Int))) [0, 1, 5] ⟨by simp, rfl, by dsimp only; omega, ⟨by dsimp only; omega, by simp⟩⟩ (by kernel_rfl) rfl rfl ?_)))))))))
  rintro ⟨k, ys, lf⟩ ⟨hk, hd, hv0, hv1⟩
  try dsimp only at hk hd hv0 hv1
  refine SEQ (SEQ (REGION [0, 1, 2, 3] rfl (RU 4 [] [(15, B (decide ((k : Int) < (a.length : Int))))] (by kernel_rfl) rfl (ENDOPS (NEXT (IF (decide ((k : Int) < (a.length : Int))) (by kernel_rfl) (fun bh2 => ?_) (fun bh2 => ?_)))))))
  ·
   have h2 := bh2
   have h2 := of_decide_eq_true h2
   obtain ⟨y3, ys4, rfl, hx_y3, hd_y3, hl_y3⟩ := drop_cons hd hk (by omega)
   refine SKIP (NEXT (SEQ (BLOCK (SEQ (REGION [0, 1, 2, 3, 4, 5, 6] rfl (RU 2 [2, 3, 4, 5, 6] [(18, .v (.slice a_a a.length a_c)), (19, I (k : Int))] (by kernel_rfl) rfl ?_))))))
   obtain ⟨a5, c6, a8, c9, hel11, hi7, hi10, hi7_cap, hi10_cap⟩ := cabin_view ha hx_y3
   have hi7_len := hi7.len
   have hi10_len := hi10.len
   refine OPC (INDEX 26 (.tmp 18) (.tmp 19) 20 0 (by kernel_rfl) (NL rfl) a_a a.length a_c .i64 (k : Int) 86 7 (by kernel_rfl) (by kernel_rfl) (by kernel_rfl) (by kernel_rfl) (Rd.some ha (by omega)) (by omega) (by omega) (OPC (LOADE 86 (.tmp 20) 21 86 (by kernel_rfl) (NL rfl) a_a (k * 7) 0 ([vi y3.seats.total, vi y3.seats.free, vi y3.seats.held, vi y3.seats.sold, vi y3.seats.tied, .slice a5 y3.row.length c6, .slice a8 y3.wheel.spoke.length c9]) (.agg #[vi y3.seats.total, vi y3.seats.free, vi y3.seats.held, vi y3.seats.sold, vi y3.seats.tied, .slice a5 y3.row.length c6, .slice a8 y3.wheel.spoke.length c9]) (by kernel_rfl) (fun w hw => hel11.fr hw.fr) (by kernel_rfl) (RU 1 [5, 6] [(22, I lf)] (by kernel_rfl) rfl (OPC (CALL 57 #[.agg #[vi y3.seats.total, vi y3.seats.free, vi y3.seats.held, vi y3.seats.sold, vi y3.seats.tied, .slice a5 y3.row.length c6, .slice a8 y3.wheel.spoke.length c9], vi lf] (some 23) (by kernel_rfl) [] [] _ rfl (⟨{x : Int // 0 ≤ x → x + ((y3).row.length : Int) + ((y3).wheel.spoke.length : Int) + ((y3).wheel.spoke.flatten.length : Int) ≤ lf}, fun q => vi q.1, fun q => []⟩) (fun w hw => szCabin_c w y3 a5 c6 (hi7.fr hw.fr) a8 c9 (hi10.fr hw.fr) lf (by first | assumption | omega) (by first | assumption | omega)) (NO rfl) ?_))))))
   rintro ⟨m12, hm13⟩
   try dsimp only at hm13
   refine RU 1 [] [(1, I m12)] (by kernel_rfl) rfl (ENDOPS (NEXT (SEQ (REGION [0, 1] rfl (RU 2 [] [(25, B (decide (m12 < 0)))] (by kernel_rfl) rfl (ENDOPS (NEXT (IF (decide (m12 < 0)) (by kernel_rfl) (fun bh14 => ?_) (fun bh14 => ?_)))))))))
   ·
    have h14 := bh14
    have h14 := of_decide_eq_true h14
    refine SEQ (REGION [0] rfl (RU 1 [] [(4, I (-1))] (by kernel_rfl) rfl (ENDOPS (NEXT (RET (OUTR (PASS trivial (PASS trivial (OUTR (PASS trivial (FIN (vi (-1)) (by kernel_rfl) ⟨-1, (by intro h9; first | omega | (rw [List.take_of_length_le (by simp at hk; omega)] at hv1; exact ⟨by omega, hv1.2⟩))⟩ ?_ [] ?_)))))))))))
    · rfl
    · rfl
   ·
    have h14 := bh14
    have h14 := of_decide_eq_false h14
    refine SKIP (OUTN (NEXT (REGION [0, 1, 2] rfl (RU 2 [2] [(17, I (wr ((k : Int) + 1)))] (by kernel_rfl) rfl (CAST (d := 17) (vi (wr ((k : Int) + 1))) (vi ((k + 1 : Nat) : Int)) (by kernel_rfl) (vi_cast (by omega) (by omega)) (RU 1 [] [(5, I ((k + 1 : Nat) : Int))] (by kernel_rfl) rfl (ENDOPS (BACK (k + 1, ys4, m12) [0, 1, 5] 0 [] _ ⟨hl_y3, hd_y3, (by first | omega | (dsimp only; omega)), ⟨by dsimp only; omega, fun c hc => by rw [List.take_add_one, hx_y3] at hc; rcases List.mem_append.1 hc with h | h; exact hv1.2 c h; (simp at h; subst h; exact ⟨by omega, by omega, by omega⟩)⟩⟩ (by simp) (by kernel_rfl) rfl rfl rfl))))))))
  ·
   have h2 := bh2
   have h2 := of_decide_eq_false h2
   obtain rfl := drop_nil hk (by omega)
   refine EXIT (PASS trivial (PASS trivial (OUT (NEXT (SEQ (REGION [0, 1] rfl (RU 2 [] [(4, I lf)] (by kernel_rfl) rfl (ENDOPS (NEXT (RET (FIN (vi lf) (by kernel_rfl) ⟨lf, (by intro h9; first | omega | (rw [List.take_of_length_le (by simp at hk; omega)] at hv1; exact ⟨by omega, hv1.2⟩))⟩ ?_ [] ?_)))))))))))
   · rfl
   · rfl

theorem szHouse_c (W : World) (a : House) (a_rules_seats_a : Option Addr) (a_rules_seats_c : Nat) (ha_rules_seats : Rd intL W a_rules_seats_a a.rules.seats) (a_parties_a : Option Addr) (a_parties_c : Nat) (ha_parties : Rd partyL W a_parties_a a.parties) (a_cabins_a : Option Addr) (a_cabins_c : Nat) (ha_cabins : Rd (cabinLx 156 189 202) W a_cabins_a a.cabins) (a_todo_a : Option Addr) (a_todo_c : Nat) (ha_todo : Rd intL W a_todo_a a.todo) (a_jobs_a : Option Addr) (a_jobs_c : Nat) (ha_jobs : Rd intL W a_jobs_a a.jobs) (left : Int) (hl : left ≤ 1048576) (hl0 : 0 ≤ left) : Spec Tryz.prog W [] 7 #[.agg #[.slice a_rules_seats_a a.rules.seats.length a_rules_seats_c, vi a.rules.tiers, vi a.rules.room, vi a.rules.size, vi a.rules.period, vi a.rules.window, vi a.rules.rest, vi a.rules.tries, vi a.rules.crew, vi a.now, vi a.turn, .slice a_parties_a a.parties.length a_parties_c, .slice a_cabins_a a.cabins.length a_cabins_c, .slice a_todo_a a.todo.length a_todo_c, .slice a_jobs_a a.jobs.length a_jobs_c], vi left] (⟨{x : Int // 0 ≤ x → HouseSz a}, fun q => vi q.1, fun q => []⟩) := by
 refine ENTER0 (N := 36) (vs := [.agg #[.slice a_rules_seats_a a.rules.seats.length a_rules_seats_c, vi a.rules.tiers, vi a.rules.room, vi a.rules.size, vi a.rules.period, vi a.rules.window, vi a.rules.rest, vi a.rules.tries, vi a.rules.crew, vi a.now, vi a.turn, .slice a_parties_a a.parties.length a_parties_c, .slice a_cabins_a a.cabins.length a_cabins_c, .slice a_todo_a a.todo.length a_todo_c, .slice a_jobs_a a.jobs.length a_jobs_c], vi left]) Tryz.func7 rfl rfl (NL rfl) ?_
 have ha_rules_seats_len := ha_rules_seats.len
 have ha_parties_len := ha_parties.len
 have ha_cabins_len := ha_cabins.len
 have ha_todo_len := ha_todo.len
 have ha_jobs_len := ha_jobs.len
 refine SEQ (REGION [0, 1] rfl (RUL 2 [] [(2, .p 0 0)] [(28, [.slice a_rules_seats_a a.rules.seats.length a_rules_seats_c, vi a.rules.tiers, vi a.rules.room, vi a.rules.size, vi a.rules.period, vi a.rules.window, vi a.rules.rest, vi a.rules.tries, vi a.rules.crew, vi a.now, vi a.turn, .slice a_parties_a a.parties.length a_parties_c, .slice a_cabins_a a.cabins.length a_cabins_c, .slice a_todo_a a.todo.length a_todo_c, .slice a_jobs_a a.jobs.length a_jobs_c])] (by kernel_rfl) rfl (ENDOPS (NEXT (SEQ (REGION [0, 1, 2, 3, 4] rfl (RU 3 [3, 4] [(6, .v (.agg #[.slice a_rules_seats_a a.rules.seats.length a_rules_seats_c, vi a.rules.tiers, vi a.rules.room, vi a.rules.size, vi a.rules.period, vi a.rules.window, vi a.rules.rest, vi a.rules.tries, vi a.rules.crew])), (7, I left)] (by kernel_rfl) rfl (OPC (CALL 22 #[.agg #[.slice a_rules_seats_a a.rules.seats.length a_rules_seats_c, vi a.rules.tiers, vi a.rules.room, vi a.rules.size, vi a.rules.period, vi a.rules.window, vi a.rules.rest, vi a.rules.tries, vi a.rules.crew], vi left] (some 8) (by kernel_rfl) [] [] _ rfl (⟨{x : Int // 0 ≤ x → x + ((a.rules).seats.length : Int) ≤ left}, fun q => vi q.1, fun q => []⟩) (fun w hw => szRules_c w a.rules a_rules_seats_a a_rules_seats_c (ha_rules_seats.fr hw.fr) left (by first | assumption | omega) (by first | assumption | omega)) (NO rfl) ?_)))))))))
 rintro ⟨m1, hm2⟩
 try dsimp only at hm2
 refine RU 1 [] [(1, I m1)] (by kernel_rfl) rfl (ENDOPS (NEXT (SEQ (SEQ (REGION [0, 1] rfl (RU 2 [] [(10, B (decide (m1 < 0)))] (by kernel_rfl) rfl (ENDOPS (NEXT (IF (decide (m1 < 0)) (by kernel_rfl) (fun bh3 => ?_) (fun bh3 => ?_))))))))))
 ·
  have h3 := bh3
  have h3 := of_decide_eq_true h3
  refine SEQ (REGION [0] rfl (RU 1 [] [(4, I (-1))] (by kernel_rfl) rfl (ENDOPS (NEXT (RET (PASS trivial (FIN (vi (-1)) (by kernel_rfl) ⟨-1, (by intro h9; first | omega | (refine ⟨?_, ?_, ?_, ?_, ?_, ?_⟩ <;> first | omega | (simp_all; done) | (simp_all; omega)))⟩ ?_ [] ?_)))))))
  · rfl
  · rfl
 ·
  have h3 := bh3
  have h3 := of_decide_eq_false h3
  refine SKIP (NEXT (SEQ (REGION [0, 1, 2, 3, 4] rfl (RU 3 [3, 4] [(12, .v (.slice a_parties_a a.parties.length a_parties_c)), (13, I m1)] (by kernel_rfl) rfl (OPC (CALL 23 #[.slice a_parties_a a.parties.length a_parties_c, vi m1] (some 14) (by kernel_rfl) [] [] _ rfl (⟨{x : Int // 0 ≤ x → x + ((a.parties).length : Int) ≤ m1}, fun q => vi q.1, fun q => []⟩) (fun w hw => szPartyS_c w a.parties a_parties_a a_parties_c (ha_parties.fr hw.fr) m1 (by first | assumption | omega) (by first | assumption | omega)) (NO rfl) ?_))))))
  rintro ⟨m4, hm5⟩
  try dsimp only at hm5
  refine RU 1 [] [(1, I m4)] (by kernel_rfl) rfl (ENDOPS (NEXT (SEQ (SEQ (REGION [0, 1] rfl (RU 2 [] [(16, B (decide (m4 < 0)))] (by kernel_rfl) rfl (ENDOPS (NEXT (IF (decide (m4 < 0)) (by kernel_rfl) (fun bh6 => ?_) (fun bh6 => ?_))))))))))
  ·
   have h6 := bh6
   have h6 := of_decide_eq_true h6
   refine SEQ (REGION [0] rfl (RU 1 [] [(4, I (-1))] (by kernel_rfl) rfl (ENDOPS (NEXT (RET (PASS trivial (FIN (vi (-1)) (by kernel_rfl) ⟨-1, (by intro h9; first | omega | (refine ⟨?_, ?_, ?_, ?_, ?_, ?_⟩ <;> first | omega | (simp_all; done) | (simp_all; omega)))⟩ ?_ [] ?_)))))))
   · rfl
   · rfl
  ·
   have h6 := bh6
   have h6 := of_decide_eq_false h6
   refine SKIP (NEXT (SEQ (REGION [0, 1, 2, 3, 4] rfl (RU 3 [3, 4] [(18, .v (.slice a_cabins_a a.cabins.length a_cabins_c)), (19, I m4)] (by kernel_rfl) rfl (OPC (CALL 24 #[.slice a_cabins_a a.cabins.length a_cabins_c, vi m4] (some 20) (by kernel_rfl) [] [] _ rfl (⟨{x : Int // 0 ≤ x → x + ((a.cabins).length : Int) ≤ m4 ∧ ∀ c ∈ a.cabins, CabinSz c}, fun q => vi q.1, fun q => []⟩) (fun w hw => szCabinS_c w a.cabins a_cabins_a a_cabins_c (ha_cabins.fr hw.fr) m4 (by first | assumption | omega) (by first | assumption | omega)) (NO rfl) ?_))))))
   rintro ⟨m7, hm8⟩
   try dsimp only at hm8
   refine RU 1 [] [(1, I m7)] (by kernel_rfl) rfl (ENDOPS (NEXT (SEQ (SEQ (REGION [0, 1] rfl (RU 2 [] [(22, B (decide (m7 < 0)))] (by kernel_rfl) rfl (ENDOPS (NEXT (IF (decide (m7 < 0)) (by kernel_rfl) (fun bh9 => ?_) (fun bh9 => ?_))))))))))
   ·
    have h9 := bh9
    have h9 := of_decide_eq_true h9
    refine SEQ (REGION [0] rfl (RU 1 [] [(4, I (-1))] (by kernel_rfl) rfl (ENDOPS (NEXT (RET (PASS trivial (FIN (vi (-1)) (by kernel_rfl) ⟨-1, (by intro h9; first | omega | (refine ⟨?_, ?_, ?_, ?_, ?_, ?_⟩ <;> first | omega | (simp_all; done) | (simp_all; omega)))⟩ ?_ [] ?_)))))))
    · rfl
    · rfl
   ·
    have h9 := bh9
    have h9 := of_decide_eq_false h9
    refine SKIP (NEXT (SEQ (REGION [0, 1, 2, 3, 4] rfl (RU 3 [3, 4] [(24, .v (.slice a_todo_a a.todo.length a_todo_c)), (25, I m7)] (by kernel_rfl) rfl (OPC (CALL 25 #[.slice a_todo_a a.todo.length a_todo_c, vi m7] (some 26) (by kernel_rfl) [] [] _ rfl (⟨{x : Int // 0 ≤ x → x + ((a.todo).length : Int) ≤ m7}, fun q => vi q.1, fun q => []⟩) (fun w hw => szIntS_c w a.todo a_todo_a a_todo_c (ha_todo.fr hw.fr) m7 (by first | assumption | omega) (by first | assumption | omega)) (NO rfl) ?_))))))
    rintro ⟨m10, hm11⟩
    try dsimp only at hm11
    refine RU 1 [] [(1, I m10)] (by kernel_rfl) rfl (ENDOPS (NEXT (SEQ (SEQ (REGION [0, 1] rfl (RU 2 [] [(28, B (decide (m10 < 0)))] (by kernel_rfl) rfl (ENDOPS (NEXT (IF (decide (m10 < 0)) (by kernel_rfl) (fun bh12 => ?_) (fun bh12 => ?_))))))))))
    ·
     have h12 := bh12
     have h12 := of_decide_eq_true h12
     refine SEQ (REGION [0] rfl (RU 1 [] [(4, I (-1))] (by kernel_rfl) rfl (ENDOPS (NEXT (RET (PASS trivial (FIN (vi (-1)) (by kernel_rfl) ⟨-1, (by intro h9; first | omega | (refine ⟨?_, ?_, ?_, ?_, ?_, ?_⟩ <;> first | omega | (simp_all; done) | (simp_all; omega)))⟩ ?_ [] ?_)))))))
     · rfl
     · rfl
    ·
     have h12 := bh12
     have h12 := of_decide_eq_false h12
     refine SKIP (NEXT (SEQ (REGION [0, 1, 2, 3, 4] rfl (RU 3 [3, 4] [(30, .v (.slice a_jobs_a a.jobs.length a_jobs_c)), (31, I m10)] (by kernel_rfl) rfl (OPC (CALL 25 #[.slice a_jobs_a a.jobs.length a_jobs_c, vi m10] (some 32) (by kernel_rfl) [] [] _ rfl (⟨{x : Int // 0 ≤ x → x + ((a.jobs).length : Int) ≤ m10}, fun q => vi q.1, fun q => []⟩) (fun w hw => szIntS_c w a.jobs a_jobs_a a_jobs_c (ha_jobs.fr hw.fr) m10 (by first | assumption | omega) (by first | assumption | omega)) (NO rfl) ?_))))))
     rintro ⟨m13, hm14⟩
     try dsimp only at hm14
     refine RU 1 [] [(1, I m13)] (by kernel_rfl) rfl (ENDOPS (NEXT (SEQ (SEQ (REGION [0, 1] rfl (RU 2 [] [(34, B (decide (m13 < 0)))] (by kernel_rfl) rfl (ENDOPS (NEXT (IF (decide (m13 < 0)) (by kernel_rfl) (fun bh15 => ?_) (fun bh15 => ?_))))))))))
     ·
      have h15 := bh15
      have h15 := of_decide_eq_true h15
      refine SEQ (REGION [0] rfl (RU 1 [] [(4, I (-1))] (by kernel_rfl) rfl (ENDOPS (NEXT (RET (PASS trivial (FIN (vi (-1)) (by kernel_rfl) ⟨-1, (by intro h9; first | omega | (refine ⟨?_, ?_, ?_, ?_, ?_, ?_⟩ <;> first | omega | (simp_all; done) | (simp_all; omega)))⟩ ?_ [] ?_)))))))
      · rfl
      · rfl
     ·
      have h15 := bh15
      have h15 := of_decide_eq_false h15
      refine SKIP (NEXT (SEQ (REGION [0, 1] rfl (RU 2 [] [(4, I m13)] (by kernel_rfl) rfl (ENDOPS (NEXT (RET (FIN (vi m13) (by kernel_rfl) ⟨m13, (by intro h9; first | omega | (refine ⟨?_, ?_, ?_, ?_, ?_, ?_⟩ <;> first | omega | (simp_all; done) | (simp_all; omega)))⟩ ?_ [] ?_))))))))
      · rfl
      · rfl

end SX
end Go.Proofs.YtgbfemglimebdaaGreat
