/- Walks, printed by program. -/
import Derived.Test.YtgbfemglimebdaaGreatDoorMdlm
import Derived.Test.YtgbfemglimebdaaGreatDoorSxd
import Derived.Test.YtgbfemglimebdaaGreatDoorSxe
import Derived.Test.YtgbfemglimebdaaGreatDoorSxc
import Derived.Test.YtgbfemglimebdaaGreatDoorProg
namespace Go.Proofs.YtgbfemglimebdaaGreatDoor
namespace SX
open Go Go.RowKit
set_option linter.unusedVariables false
set_option linter.unusedSimpArgs false
set_option maxRecDepth 10000
set_option maxHeartbeats 400000
theorem szIntS_c (W : World) (a : List Int) (a_a : Option Addr) (a_c : Nat) (ha : Rd intL W a_a a) (left : Int) (hl : left ≤ 1048576) (hl0 : 0 ≤ left) : Spec Tryz.prog W [] 12 #[.slice a_a a.length a_c, vi left] (⟨{x : Int // 0 ≤ x → x + ((a).length : Int) ≤ left}, fun q => vi q.1, fun q => []⟩) := by
 refine ENTER0 (N := 12) (vs := [.slice a_a a.length a_c, vi left]) Tryz.func12 rfl rfl (NL rfl) ?_
 have hal9 := ha.len; have hwl : wr (left - (a.length : Int)) = left - (a.length : Int) := wr_of (by omega) (by omega)
 have ha_len := ha.len
 refine SEQ (RG (UU 1 [] (NR (UU 5 [(1, I (wr (left - (a.length : Int))))] (ENDOPS (NEXT (SEQ (SEQ (RG (UU 2 [(10, B (decide ((wr (left - (a.length : Int))) < 0)))] (NI (decide ((wr (left - (a.length : Int))) < 0)) (fun bh1 => ?_) (fun bh1 => ?_))))))))))))
 ·
  have h1 := of_decide_eq_true bh1
  refine SEQ (RG (UU 1 [(4, I (-1))] (ENDOPS (NEXT (RF rfl (vi (-1)) ⟨-1, (by intro h9; omega)⟩ [] ?_ ?_)))))
  · rfl
  · rfl
 ·
  have h1 := of_decide_eq_false bh1
  refine SKIP (NEXT (SEQ (RG (UU 2 [(4, I (wr (left - (a.length : Int))))] (ENDOPS (NEXT (RF rfl (vi (wr (left - (a.length : Int)))) ⟨wr (left - (a.length : Int)), (by intro h9; omega)⟩ [] ?_ ?_)))))))
  · rfl
  · rfl

theorem szRules_c (W : World) (a : Rules) (a_seats_a : Option Addr) (a_seats_c : Nat) (ha_seats : Rd intL W a_seats_a a.seats) (left : Int) (hl : left ≤ 1048576) (hl0 : 0 ≤ left) : Spec Tryz.prog W [] 9 #[.agg #[.slice a_seats_a a.seats.length a_seats_c, vi a.tiers, vi a.room, vi a.size, vi a.period, vi a.window, vi a.rest, vi a.tries, vi a.crew], vi left] (⟨{x : Int // 0 ≤ x → x + ((a).seats.length : Int) ≤ left}, fun q => vi q.1, fun q => []⟩) := by
 refine ENTER0 (N := 12) (vs := [.agg #[.slice a_seats_a a.seats.length a_seats_c, vi a.tiers, vi a.room, vi a.size, vi a.period, vi a.window, vi a.rest, vi a.tries, vi a.crew], vi left]) Tryz.func9 rfl rfl (NL rfl) ?_
 have ha_seats_len := ha_seats.len
 refine SEQ (RG (UL 2 [(2, .p 0 0)] [(24, [.slice a_seats_a a.seats.length a_seats_c, vi a.tiers, vi a.room, vi a.size, vi a.period, vi a.window, vi a.rest, vi a.tries, vi a.crew])] (NR (UU 3 [(6, .v (.slice a_seats_a a.seats.length a_seats_c)), (7, I left)] (OPC (CA 12 #[.slice a_seats_a a.seats.length a_seats_c, vi left] (some 8) (⟨{x : Int // 0 ≤ x → x + ((a.seats).length : Int) ≤ left}, fun q => vi q.1, fun q => []⟩) (fun w hw => szIntS_c w a.seats a_seats_a a_seats_c (ha_seats.fr hw.fr) left (by first | assumption | omega) (by first | assumption | omega)) ?_))))))
 rintro ⟨m1, hm2⟩
 try dsimp only at hm2
 refine UU 1 [(1, I m1)] (ENDOPS (NEXT (SEQ (SEQ (RG (UU 2 [(10, B (decide (m1 < 0)))] (NI (decide (m1 < 0)) (fun bh3 => ?_) (fun bh3 => ?_))))))))
 ·
  have h3 := of_decide_eq_true bh3
  refine SEQ (RG (UU 1 [(4, I (-1))] (ENDOPS (NEXT (RF rfl (vi (-1)) ⟨-1, (by intro h9; first | omega | (dsimp only at *; omega))⟩ [] ?_ ?_)))))
  · rfl
  · rfl
 ·
  have h3 := of_decide_eq_false bh3
  refine SKIP (NEXT (SEQ (RG (UU 2 [(4, I m1)] (ENDOPS (NEXT (RF rfl (vi m1) ⟨m1, (by intro h9; first | omega | (dsimp only at *; omega))⟩ [] ?_ ?_)))))))
  · rfl
  · rfl

theorem szPartyS_c (W : World) (a : List Party) (a_a : Option Addr) (a_c : Nat) (ha : Rd partyL W a_a a) (left : Int) (hl : left ≤ 1048576) (hl0 : 0 ≤ left) : Spec Tryz.prog W [] 10 #[.slice a_a a.length a_c, vi left] (⟨{x : Int // 0 ≤ x → x + ((a).length : Int) ≤ left}, fun q => vi q.1, fun q => []⟩) := by
 refine ENTER0 (N := 12) (vs := [.slice a_a a.length a_c, vi left]) Tryz.func10 rfl rfl (NL rfl) ?_
 have hal9 := ha.len; have hwl : wr (left - (a.length : Int)) = left - (a.length : Int) := wr_of (by omega) (by omega)
 have ha_len := ha.len
 refine SEQ (RG (UU 1 [] (NR (UU 5 [(1, I (wr (left - (a.length : Int))))] (ENDOPS (NEXT (SEQ (SEQ (RG (UU 2 [(10, B (decide ((wr (left - (a.length : Int))) < 0)))] (NI (decide ((wr (left - (a.length : Int))) < 0)) (fun bh1 => ?_) (fun bh1 => ?_))))))))))))
 ·
  have h1 := of_decide_eq_true bh1
  refine SEQ (RG (UU 1 [(4, I (-1))] (ENDOPS (NEXT (RF rfl (vi (-1)) ⟨-1, (by intro h9; omega)⟩ [] ?_ ?_)))))
  · rfl
  · rfl
 ·
  have h1 := of_decide_eq_false bh1
  refine SKIP (NEXT (SEQ (RG (UU 2 [(4, I (wr (left - (a.length : Int))))] (ENDOPS (NEXT (RF rfl (vi (wr (left - (a.length : Int)))) ⟨wr (left - (a.length : Int)), (by intro h9; omega)⟩ [] ?_ ?_)))))))
  · rfl
  · rfl

theorem szEntryS_c (W : World) (a : List Entry) (a_a : Option Addr) (a_c : Nat) (ha : Rd entryL W a_a a) (left : Int) (hl : left ≤ 1048576) (hl0 : 0 ≤ left) : Spec Tryz.prog W [] 45 #[.slice a_a a.length a_c, vi left] (⟨{x : Int // 0 ≤ x → x + ((a).length : Int) ≤ left}, fun q => vi q.1, fun q => []⟩) := by
 refine ENTER0 (N := 12) (vs := [.slice a_a a.length a_c, vi left]) Tryz.func45 rfl rfl (NL rfl) ?_
 have hal9 := ha.len; have hwl : wr (left - (a.length : Int)) = left - (a.length : Int) := wr_of (by omega) (by omega)
 have ha_len := ha.len
 refine SEQ (RG (UU 1 [] (NR (UU 5 [(1, I (wr (left - (a.length : Int))))] (ENDOPS (NEXT (SEQ (SEQ (RG (UU 2 [(10, B (decide ((wr (left - (a.length : Int))) < 0)))] (NI (decide ((wr (left - (a.length : Int))) < 0)) (fun bh1 => ?_) (fun bh1 => ?_))))))))))))
 ·
  have h1 := of_decide_eq_true bh1
  refine SEQ (RG (UU 1 [(4, I (-1))] (ENDOPS (NEXT (RF rfl (vi (-1)) ⟨-1, (by intro h9; omega)⟩ [] ?_ ?_)))))
  · rfl
  · rfl
 ·
  have h1 := of_decide_eq_false bh1
  refine SKIP (NEXT (SEQ (RG (UU 2 [(4, I (wr (left - (a.length : Int))))] (ENDOPS (NEXT (RF rfl (vi (wr (left - (a.length : Int)))) ⟨wr (left - (a.length : Int)), (by intro h9; omega)⟩ [] ?_ ?_)))))))
  · rfl
  · rfl

theorem szPinS_c (W : World) (a : List Pin) (a_a : Option Addr) (a_c : Nat) (ha : Rd pinL W a_a a) (left : Int) (hl : left ≤ 1048576) (hl0 : 0 ≤ left) : Spec Tryz.prog W [] 96 #[.slice a_a a.length a_c, vi left] (⟨{x : Int // 0 ≤ x → x + ((a).length : Int) ≤ left}, fun q => vi q.1, fun q => []⟩) := by
 refine ENTER0 (N := 12) (vs := [.slice a_a a.length a_c, vi left]) Tryz.func96 rfl rfl (NL rfl) ?_
 have hal9 := ha.len; have hwl : wr (left - (a.length : Int)) = left - (a.length : Int) := wr_of (by omega) (by omega)
 have ha_len := ha.len
 refine SEQ (RG (UU 1 [] (NR (UU 5 [(1, I (wr (left - (a.length : Int))))] (ENDOPS (NEXT (SEQ (SEQ (RG (UU 2 [(10, B (decide ((wr (left - (a.length : Int))) < 0)))] (NI (decide ((wr (left - (a.length : Int))) < 0)) (fun bh1 => ?_) (fun bh1 => ?_))))))))))))
 ·
  have h1 := of_decide_eq_true bh1
  refine SEQ (RG (UU 1 [(4, I (-1))] (ENDOPS (NEXT (RF rfl (vi (-1)) ⟨-1, (by intro h9; omega)⟩ [] ?_ ?_)))))
  · rfl
  · rfl
 ·
  have h1 := of_decide_eq_false bh1
  refine SKIP (NEXT (SEQ (RG (UU 2 [(4, I (wr (left - (a.length : Int))))] (ENDOPS (NEXT (RF rfl (vi (wr (left - (a.length : Int)))) ⟨wr (left - (a.length : Int)), (by intro h9; omega)⟩ [] ?_ ?_)))))))
  · rfl
  · rfl

theorem szPinSS_c (W : World) (a : List (List Pin)) (a_a : Option Addr) (a_c : Nat) (ha : Rd (sl 154 pinL) W a_a a) (left : Int) (hl : left ≤ 1048576) (hl0 : 0 ≤ left) : Spec Tryz.prog W [] 69 #[.slice a_a a.length a_c, vi left] (⟨{x : Int // 0 ≤ x → x + ((a).length : Int) + ((a).flatten.length : Int) ≤ left}, fun q => vi q.1, fun q => []⟩) := by
 refine ENTER0 (N := 27) (vs := [.slice a_a a.length a_c, vi left]) Tryz.func69 rfl rfl (NL rfl) ?_
 have hal9 := ha.len; have hwl : wr (left - (a.length : Int)) = left - (a.length : Int) := wr_of (by omega) (by omega)
 have ha_len := ha.len
 refine SEQ (RG (UU 1 [] (NR (UU 5 [(1, I (wr (left - (a.length : Int))))] (ENDOPS (NEXT (SEQ (SEQ (RG (UU 2 [(11, B (decide ((wr (left - (a.length : Int))) < 0)))] (NI (decide ((wr (left - (a.length : Int))) < 0)) (fun bh1 => ?_) (fun bh1 => ?_))))))))))))
 ·
  have h1 := of_decide_eq_true bh1
  refine SEQ (RG (UU 1 [(4, I (-1))] (ENDOPS (NEXT (RF rfl (vi (-1)) ⟨-1, (by intro h9; first | omega | (rw [List.take_of_length_le (by simp at hk; omega)] at hv1; omega))⟩ [] ?_ ?_)))))
  · rfl
  · rfl
 ·
  have h1 := of_decide_eq_false bh1
  refine SKIP (NEXT (SEQ (SEQ (RG (UU 1 [(5, I 0)] (ENDOPS (NEXT (BLOCK (LOOP (ι := Nat × (List (List Pin)) × Int) (fun j => [(0, .v (.slice a_a a.length a_c)), (1, I j.2.2), (5, I (j.1 : Int))]) (fun j => []) (fun j => []) (fun j => j.1 + j.2.1.length = a.length ∧ a.drop j.1 = j.2.1 ∧ 0 ≤ j.2.2 ∧ j.2.2 + (a.length : Int) + ((a.take j.1).flatten.length : Int) ≤ left) (fun j => j.2.1.length) (0, a, wr (left - (a.length : Int))) [0, 1, 5] ⟨by simp, rfl, by dsimp only; omega, by simp only [List.take_zero, List.flatten_nil, List.length_nil]; omega⟩ (by kernel_rfl) rfl rfl ?_)))))))))
  rintro ⟨k, ys, lf⟩ ⟨hk, hd, hv0, hv1⟩
  try dsimp only at hk hd hv0 hv1
  refine SEQ (SEQ (RG (UU 4 [(15, B (decide ((k : Int) < (a.length : Int))))] (NI (decide ((k : Int) < (a.length : Int))) (fun bh2 => ?_) (fun bh2 => ?_)))))
  ·
   have h2 := of_decide_eq_true bh2
   obtain ⟨y3, ys4, rfl, hx_y3, hd_y3, hl_y3⟩ := drop_cons hd hk (by omega)
   refine SKIP (NEXT (SEQ (BLOCK (SEQ (RG (UU 2 [(18, .v (.slice a_a a.length a_c)), (19, I (k : Int))] ?_))))))
   obtain ⟨a5, c6, hel8, hi7, hi7_cap⟩ := sl_view ha hx_y3
   have hi7_len := hi7.len
   refine OPC (IX 72 (.tmp 18) (.tmp 19) 20 0 a_a a.length a_c .i64 (k : Int) 130 1 (Rd.some ha (by omega)) (by omega) (by omega) (OPC (LE 130 (.tmp 20) 21 130 a_a (k * 1) 0 ([.slice a5 y3.length c6]) (.slice a5 y3.length c6) (fun w hw => hel8.fr hw.fr) (UU 1 [(22, I lf)] (OPC (CA 96 #[.slice a5 y3.length c6, vi lf] (some 23) (⟨{x : Int // 0 ≤ x → x + ((y3).length : Int) ≤ lf}, fun q => vi q.1, fun q => []⟩) (fun w hw => szPinS_c w y3 a5 c6 (hi7.fr hw.fr) lf (by first | assumption | omega) (by first | assumption | omega)) ?_))))))
   rintro ⟨m9, hm10⟩
   try dsimp only at hm10
   refine UU 1 [(1, I m9)] (NR (UU 2 [(25, B (decide (m9 < 0)))] (NI (decide (m9 < 0)) (fun bh11 => ?_) (fun bh11 => ?_))))
   ·
    have h11 := of_decide_eq_true bh11
    refine SEQ (RG (UU 1 [(4, I (-1))] (ENDOPS (NEXT (RF rfl (vi (-1)) ⟨-1, (by intro h9; first | omega | (rw [List.take_of_length_le (by simp at hk; omega)] at hv1; omega))⟩ [] ?_ ?_)))))
    · rfl
    · rfl
   ·
    have h11 := of_decide_eq_false bh11
    refine SKIP (OUTN (NEXT (RG (UU 2 [(17, I (wr ((k : Int) + 1)))] (CS 17 (vi (wr ((k : Int) + 1))) (vi ((k + 1 : Nat) : Int)) (vi_cast (by omega) (by omega)) (UU 1 [(5, I ((k + 1 : Nat) : Int))] (ENDOPS (BK (k + 1, ys4, m9) [0, 1, 5] 0 [] ⟨hl_y3, hd_y3, (by first | omega | (dsimp only; omega)), (by rw [flat_take hx_y3, List.length_append]; dsimp only; omega)⟩ (by simp)))))))))
  ·
   have h2 := of_decide_eq_false bh2
   obtain rfl := drop_nil hk (by omega)
   refine EXIT (PASS trivial (PASS trivial (OUT (NEXT (SEQ (RG (UU 2 [(4, I lf)] (ENDOPS (NEXT (RF rfl (vi lf) ⟨lf, (by intro h9; first | omega | (rw [List.take_of_length_le (by simp at hk; omega)] at hv1; omega))⟩ [] ?_ ?_))))))))))
   · rfl
   · rfl

theorem szWheel_c (W : World) (a : Wheel) (a_spoke_a : Option Addr) (a_spoke_c : Nat) (ha_spoke : Rd (sl 154 pinL) W a_spoke_a a.spoke) (left : Int) (hl : left ≤ 1048576) (hl0 : 0 ≤ left) : Spec Tryz.prog W [] 46 #[.agg #[.slice a_spoke_a a.spoke.length a_spoke_c], vi left] (⟨{x : Int // 0 ≤ x → x + ((a).spoke.length : Int) + ((a).spoke.flatten.length : Int) ≤ left}, fun q => vi q.1, fun q => []⟩) := by
 refine ENTER0 (N := 12) (vs := [.agg #[.slice a_spoke_a a.spoke.length a_spoke_c], vi left]) Tryz.func46 rfl rfl (NL rfl) ?_
 have ha_spoke_len := ha_spoke.len
 refine SEQ (RG (UL 2 [(2, .p 0 0)] [(74, [.slice a_spoke_a a.spoke.length a_spoke_c])] (NR (UU 3 [(6, .v (.slice a_spoke_a a.spoke.length a_spoke_c)), (7, I left)] (OPC (CA 69 #[.slice a_spoke_a a.spoke.length a_spoke_c, vi left] (some 8) (⟨{x : Int // 0 ≤ x → x + ((a.spoke).length : Int) + ((a.spoke).flatten.length : Int) ≤ left}, fun q => vi q.1, fun q => []⟩) (fun w hw => szPinSS_c w a.spoke a_spoke_a a_spoke_c (ha_spoke.fr hw.fr) left (by first | assumption | omega) (by first | assumption | omega)) ?_))))))
 rintro ⟨m1, hm2⟩
 try dsimp only at hm2
 refine UU 1 [(1, I m1)] (ENDOPS (NEXT (SEQ (SEQ (RG (UU 2 [(10, B (decide (m1 < 0)))] (NI (decide (m1 < 0)) (fun bh3 => ?_) (fun bh3 => ?_))))))))
 ·
  have h3 := of_decide_eq_true bh3
  refine SEQ (RG (UU 1 [(4, I (-1))] (ENDOPS (NEXT (RF rfl (vi (-1)) ⟨-1, (by intro h9; first | omega | (dsimp only at *; omega))⟩ [] ?_ ?_)))))
  · rfl
  · rfl
 ·
  have h3 := of_decide_eq_false bh3
  refine SKIP (NEXT (SEQ (RG (UU 2 [(4, I m1)] (ENDOPS (NEXT (RF rfl (vi m1) ⟨m1, (by intro h9; first | omega | (dsimp only at *; omega))⟩ [] ?_ ?_)))))))
  · rfl
  · rfl

theorem szCabin_c (W : World) (a : Cabin) (a_row_a : Option Addr) (a_row_c : Nat) (ha_row : Rd entryL W a_row_a a.row) (a_wheel_spoke_a : Option Addr) (a_wheel_spoke_c : Nat) (ha_wheel_spoke : Rd (sl 154 pinL) W a_wheel_spoke_a a.wheel.spoke) (left : Int) (hl : left ≤ 1048576) (hl0 : 0 ≤ left) : Spec Tryz.prog W [] 30 #[.agg #[vi a.seats.total, vi a.seats.free, vi a.seats.held, vi a.seats.sold, vi a.seats.tied, .slice a_row_a a.row.length a_row_c, .slice a_wheel_spoke_a a.wheel.spoke.length a_wheel_spoke_c], vi left] (⟨{x : Int // 0 ≤ x → x + ((a).row.length : Int) + ((a).wheel.spoke.length : Int) + ((a).wheel.spoke.flatten.length : Int) ≤ left}, fun q => vi q.1, fun q => []⟩) := by
 refine ENTER0 (N := 18) (vs := [.agg #[vi a.seats.total, vi a.seats.free, vi a.seats.held, vi a.seats.sold, vi a.seats.tied, .slice a_row_a a.row.length a_row_c, .slice a_wheel_spoke_a a.wheel.spoke.length a_wheel_spoke_c], vi left]) Tryz.func30 rfl rfl (NL rfl) ?_
 have ha_row_len := ha_row.len
 have ha_wheel_spoke_len := ha_wheel_spoke.len
 refine SEQ (RG (UL 2 [(2, .p 0 0)] [(76, [vi a.seats.total, vi a.seats.free, vi a.seats.held, vi a.seats.sold, vi a.seats.tied, .slice a_row_a a.row.length a_row_c, .slice a_wheel_spoke_a a.wheel.spoke.length a_wheel_spoke_c])] (NR (UU 3 [(6, .v (.slice a_row_a a.row.length a_row_c)), (7, I left)] (OPC (CA 45 #[.slice a_row_a a.row.length a_row_c, vi left] (some 8) (⟨{x : Int // 0 ≤ x → x + ((a.row).length : Int) ≤ left}, fun q => vi q.1, fun q => []⟩) (fun w hw => szEntryS_c w a.row a_row_a a_row_c (ha_row.fr hw.fr) left (by first | assumption | omega) (by first | assumption | omega)) ?_))))))
 rintro ⟨m1, hm2⟩
 try dsimp only at hm2
 refine UU 1 [(1, I m1)] (ENDOPS (NEXT (SEQ (SEQ (RG (UU 2 [(10, B (decide (m1 < 0)))] (NI (decide (m1 < 0)) (fun bh3 => ?_) (fun bh3 => ?_))))))))
 ·
  have h3 := of_decide_eq_true bh3
  refine SEQ (RG (UU 1 [(4, I (-1))] (ENDOPS (NEXT (RF rfl (vi (-1)) ⟨-1, (by intro h9; first | omega | (dsimp only at *; omega))⟩ [] ?_ ?_)))))
  · rfl
  · rfl
 ·
  have h3 := of_decide_eq_false bh3
  refine SKIP (NEXT (SEQ (RG (UU 3 [(12, .v (.agg #[.slice a_wheel_spoke_a a.wheel.spoke.length a_wheel_spoke_c])), (13, I m1)] (OPC (CA 46 #[.agg #[.slice a_wheel_spoke_a a.wheel.spoke.length a_wheel_spoke_c], vi m1] (some 14) (⟨{x : Int // 0 ≤ x → x + ((a.wheel).spoke.length : Int) + ((a.wheel).spoke.flatten.length : Int) ≤ m1}, fun q => vi q.1, fun q => []⟩) (fun w hw => szWheel_c w a.wheel a_wheel_spoke_a a_wheel_spoke_c (ha_wheel_spoke.fr hw.fr) m1 (by first | assumption | omega) (by first | assumption | omega)) ?_))))))
  rintro ⟨m4, hm5⟩
  try dsimp only at hm5
  refine UU 1 [(1, I m4)] (ENDOPS (NEXT (SEQ (SEQ (RG (UU 2 [(16, B (decide (m4 < 0)))] (NI (decide (m4 < 0)) (fun bh6 => ?_) (fun bh6 => ?_))))))))
  ·
   have h6 := of_decide_eq_true bh6
   refine SEQ (RG (UU 1 [(4, I (-1))] (ENDOPS (NEXT (RF rfl (vi (-1)) ⟨-1, (by intro h9; first | omega | (dsimp only at *; omega))⟩ [] ?_ ?_)))))
   · rfl
   · rfl
  ·
   have h6 := of_decide_eq_false bh6
   refine SKIP (NEXT (SEQ (RG (UU 2 [(4, I m4)] (ENDOPS (NEXT (RF rfl (vi m4) ⟨m4, (by intro h9; first | omega | (dsimp only at *; omega))⟩ [] ?_ ?_)))))))
   · rfl
   · rfl

theorem szCabinS_c (W : World) (a : List Cabin) (a_a : Option Addr) (a_c : Nat) (ha : Rd (cabinLx 119 130 154) W a_a a) (left : Int) (hl : left ≤ 1048576) (hl0 : 0 ≤ left) : Spec Tryz.prog W [] 11 #[.slice a_a a.length a_c, vi left] (⟨{x : Int // 0 ≤ x → x + ((a).length : Int) ≤ left ∧ ∀ c ∈ a, CabinSz c}, fun q => vi q.1, fun q => []⟩) := by
 refine ENTER0 (N := 27) (vs := [.slice a_a a.length a_c, vi left]) Tryz.func11 rfl rfl (NL rfl) ?_
 have hal9 := ha.len; have hwl : wr (left - (a.length : Int)) = left - (a.length : Int) := wr_of (by omega) (by omega)
 have ha_len := ha.len
 refine SEQ (RG (UU 1 [] (NR (UU 5 [(1, I (wr (left - (a.length : Int))))] (ENDOPS (NEXT (SEQ (SEQ (RG (UU 2 [(11, B (decide ((wr (left - (a.length : Int))) < 0)))] (NI (decide ((wr (left - (a.length : Int))) < 0)) (fun bh1 => ?_) (fun bh1 => ?_))))))))))))
 ·
  have h1 := of_decide_eq_true bh1
  refine SEQ (RG (UU 1 [(4, I (-1))] (ENDOPS (NEXT (RF rfl (vi (-1)) ⟨-1, (by intro h9; first | omega | (rw [List.take_of_length_le (by simp at hk; omega)] at hv1; exact ⟨by omega, hv1.2⟩))⟩ [] ?_ ?_)))))
  · rfl
  · rfl
 ·
  have h1 := of_decide_eq_false bh1
  refine SKIP (NEXT (SEQ (SEQ (RG (UU 1 [(5, I 0)] (ENDOPS (NEXT (BLOCK (LOOP (ι := Nat × (List Cabin) × Int) (fun j => [(0, .v (.slice a_a a.length a_c)), (1, I j.2.2), (5, I (j.1 : Int))]) (fun j => []) (fun j => []) (fun j => j.1 + j.2.1.length = a.length ∧ a.drop j.1 = j.2.1 ∧ 0 ≤ j.2.2 ∧ (j.2.2 + (a.length : Int) ≤ left ∧ ∀ c ∈ a.take j.1, CabinSz c)) (fun j => j.2.1.length) (0, a, wr (left - (a.length : Int))) [0, 1, 5] ⟨by simp, rfl, by dsimp only; omega, ⟨by dsimp only; omega, by simp⟩⟩ (by kernel_rfl) rfl rfl ?_)))))))))
  rintro ⟨k, ys, lf⟩ ⟨hk, hd, hv0, hv1⟩
  try dsimp only at hk hd hv0 hv1
  refine SEQ (SEQ (RG (UU 4 [(15, B (decide ((k : Int) < (a.length : Int))))] (NI (decide ((k : Int) < (a.length : Int))) (fun bh2 => ?_) (fun bh2 => ?_)))))
  ·
   have h2 := of_decide_eq_true bh2
   obtain ⟨y3, ys4, rfl, hx_y3, hd_y3, hl_y3⟩ := drop_cons hd hk (by omega)
   refine SKIP (NEXT (SEQ (BLOCK (SEQ (RG (UU 2 [(18, .v (.slice a_a a.length a_c)), (19, I (k : Int))] ?_))))))
   obtain ⟨a5, c6, a8, c9, hel11, hi7, hi10, hi7_cap, hi10_cap⟩ := cabin_view ha hx_y3
   have hi7_len := hi7.len
   have hi10_len := hi10.len
   refine OPC (IX 26 (.tmp 18) (.tmp 19) 20 0 a_a a.length a_c .i64 (k : Int) 76 7 (Rd.some ha (by omega)) (by omega) (by omega) (OPC (LE 76 (.tmp 20) 21 76 a_a (k * 7) 0 ([vi y3.seats.total, vi y3.seats.free, vi y3.seats.held, vi y3.seats.sold, vi y3.seats.tied, .slice a5 y3.row.length c6, .slice a8 y3.wheel.spoke.length c9]) (.agg #[vi y3.seats.total, vi y3.seats.free, vi y3.seats.held, vi y3.seats.sold, vi y3.seats.tied, .slice a5 y3.row.length c6, .slice a8 y3.wheel.spoke.length c9]) (fun w hw => hel11.fr hw.fr) (UU 1 [(22, I lf)] (OPC (CA 30 #[.agg #[vi y3.seats.total, vi y3.seats.free, vi y3.seats.held, vi y3.seats.sold, vi y3.seats.tied, .slice a5 y3.row.length c6, .slice a8 y3.wheel.spoke.length c9], vi lf] (some 23) (⟨{x : Int // 0 ≤ x → x + ((y3).row.length : Int) + ((y3).wheel.spoke.length : Int) + ((y3).wheel.spoke.flatten.length : Int) ≤ lf}, fun q => vi q.1, fun q => []⟩) (fun w hw => szCabin_c w y3 a5 c6 (hi7.fr hw.fr) a8 c9 (hi10.fr hw.fr) lf (by first | assumption | omega) (by first | assumption | omega)) ?_))))))
   rintro ⟨m12, hm13⟩
   try dsimp only at hm13
   refine UU 1 [(1, I m12)] (NR (UU 2 [(25, B (decide (m12 < 0)))] (NI (decide (m12 < 0)) (fun bh14 => ?_) (fun bh14 => ?_))))
   ·
    have h14 := of_decide_eq_true bh14
    refine SEQ (RG (UU 1 [(4, I (-1))] (ENDOPS (NEXT (RF rfl (vi (-1)) ⟨-1, (by intro h9; first | omega | (rw [List.take_of_length_le (by simp at hk; omega)] at hv1; exact ⟨by omega, hv1.2⟩))⟩ [] ?_ ?_)))))
    · rfl
    · rfl
   ·
    have h14 := of_decide_eq_false bh14
    refine SKIP (OUTN (NEXT (RG (UU 2 [(17, I (wr ((k : Int) + 1)))] (CS 17 (vi (wr ((k : Int) + 1))) (vi ((k + 1 : Nat) : Int)) (vi_cast (by omega) (by omega)) (UU 1 [(5, I ((k + 1 : Nat) : Int))] (ENDOPS (BK (k + 1, ys4, m12) [0, 1, 5] 0 [] ⟨hl_y3, hd_y3, (by first | omega | (dsimp only; omega)), ⟨by dsimp only; omega, fun c hc => by rw [List.take_add_one, hx_y3] at hc; rcases List.mem_append.1 hc with h | h; exact hv1.2 c h; (simp at h; subst h; exact ⟨by omega, by omega, by omega⟩)⟩⟩ (by simp)))))))))
  ·
   have h2 := of_decide_eq_false bh2
   obtain rfl := drop_nil hk (by omega)
   refine EXIT (PASS trivial (PASS trivial (OUT (NEXT (SEQ (RG (UU 2 [(4, I lf)] (ENDOPS (NEXT (RF rfl (vi lf) ⟨lf, (by intro h9; first | omega | (rw [List.take_of_length_le (by simp at hk; omega)] at hv1; exact ⟨by omega, hv1.2⟩))⟩ [] ?_ ?_))))))))))
   · rfl
   · rfl

theorem szHouse_c (W : World) (a : House) (a_rules_seats_a : Option Addr) (a_rules_seats_c : Nat) (ha_rules_seats : Rd intL W a_rules_seats_a a.rules.seats) (a_parties_a : Option Addr) (a_parties_c : Nat) (ha_parties : Rd partyL W a_parties_a a.parties) (a_cabins_a : Option Addr) (a_cabins_c : Nat) (ha_cabins : Rd (cabinLx 119 130 154) W a_cabins_a a.cabins) (a_todo_a : Option Addr) (a_todo_c : Nat) (ha_todo : Rd intL W a_todo_a a.todo) (a_jobs_a : Option Addr) (a_jobs_c : Nat) (ha_jobs : Rd intL W a_jobs_a a.jobs) (left : Int) (hl : left ≤ 1048576) (hl0 : 0 ≤ left) : Spec Tryz.prog W [] 4 #[.agg #[.slice a_rules_seats_a a.rules.seats.length a_rules_seats_c, vi a.rules.tiers, vi a.rules.room, vi a.rules.size, vi a.rules.period, vi a.rules.window, vi a.rules.rest, vi a.rules.tries, vi a.rules.crew, vi a.now, vi a.turn, .slice a_parties_a a.parties.length a_parties_c, .slice a_cabins_a a.cabins.length a_cabins_c, .slice a_todo_a a.todo.length a_todo_c, .slice a_jobs_a a.jobs.length a_jobs_c], vi left] (⟨{x : Int // 0 ≤ x → HouseSz a}, fun q => vi q.1, fun q => []⟩) := by
 refine ENTER0 (N := 36) (vs := [.agg #[.slice a_rules_seats_a a.rules.seats.length a_rules_seats_c, vi a.rules.tiers, vi a.rules.room, vi a.rules.size, vi a.rules.period, vi a.rules.window, vi a.rules.rest, vi a.rules.tries, vi a.rules.crew, vi a.now, vi a.turn, .slice a_parties_a a.parties.length a_parties_c, .slice a_cabins_a a.cabins.length a_cabins_c, .slice a_todo_a a.todo.length a_todo_c, .slice a_jobs_a a.jobs.length a_jobs_c], vi left]) Tryz.func4 rfl rfl (NL rfl) ?_
 have ha_rules_seats_len := ha_rules_seats.len
 have ha_parties_len := ha_parties.len
 have ha_cabins_len := ha_cabins.len
 have ha_todo_len := ha_todo.len
 have ha_jobs_len := ha_jobs.len
 refine SEQ (RG (UL 2 [(2, .p 0 0)] [(28, [.slice a_rules_seats_a a.rules.seats.length a_rules_seats_c, vi a.rules.tiers, vi a.rules.room, vi a.rules.size, vi a.rules.period, vi a.rules.window, vi a.rules.rest, vi a.rules.tries, vi a.rules.crew, vi a.now, vi a.turn, .slice a_parties_a a.parties.length a_parties_c, .slice a_cabins_a a.cabins.length a_cabins_c, .slice a_todo_a a.todo.length a_todo_c, .slice a_jobs_a a.jobs.length a_jobs_c])] (NR (UU 3 [(6, .v (.agg #[.slice a_rules_seats_a a.rules.seats.length a_rules_seats_c, vi a.rules.tiers, vi a.rules.room, vi a.rules.size, vi a.rules.period, vi a.rules.window, vi a.rules.rest, vi a.rules.tries, vi a.rules.crew])), (7, I left)] (OPC (CA 9 #[.agg #[.slice a_rules_seats_a a.rules.seats.length a_rules_seats_c, vi a.rules.tiers, vi a.rules.room, vi a.rules.size, vi a.rules.period, vi a.rules.window, vi a.rules.rest, vi a.rules.tries, vi a.rules.crew], vi left] (some 8) (⟨{x : Int // 0 ≤ x → x + ((a.rules).seats.length : Int) ≤ left}, fun q => vi q.1, fun q => []⟩) (fun w hw => szRules_c w a.rules a_rules_seats_a a_rules_seats_c (ha_rules_seats.fr hw.fr) left (by first | assumption | omega) (by first | assumption | omega)) ?_))))))
 rintro ⟨m1, hm2⟩
 try dsimp only at hm2
 refine UU 1 [(1, I m1)] (ENDOPS (NEXT (SEQ (SEQ (RG (UU 2 [(10, B (decide (m1 < 0)))] (NI (decide (m1 < 0)) (fun bh3 => ?_) (fun bh3 => ?_))))))))
 ·
  have h3 := of_decide_eq_true bh3
  refine SEQ (RG (UU 1 [(4, I (-1))] (ENDOPS (NEXT (RF rfl (vi (-1)) ⟨-1, (by intro h9; first | omega | (refine ⟨?_, ?_, ?_, ?_, ?_, ?_⟩ <;> first | omega | (simp_all; done) | (simp_all; omega)))⟩ [] ?_ ?_)))))
  · rfl
  · rfl
 ·
  have h3 := of_decide_eq_false bh3
  refine SKIP (NEXT (SEQ (RG (UU 3 [(12, .v (.slice a_parties_a a.parties.length a_parties_c)), (13, I m1)] (OPC (CA 10 #[.slice a_parties_a a.parties.length a_parties_c, vi m1] (some 14) (⟨{x : Int // 0 ≤ x → x + ((a.parties).length : Int) ≤ m1}, fun q => vi q.1, fun q => []⟩) (fun w hw => szPartyS_c w a.parties a_parties_a a_parties_c (ha_parties.fr hw.fr) m1 (by first | assumption | omega) (by first | assumption | omega)) ?_))))))
  rintro ⟨m4, hm5⟩
  try dsimp only at hm5
  refine UU 1 [(1, I m4)] (ENDOPS (NEXT (SEQ (SEQ (RG (UU 2 [(16, B (decide (m4 < 0)))] (NI (decide (m4 < 0)) (fun bh6 => ?_) (fun bh6 => ?_))))))))
  ·
   have h6 := of_decide_eq_true bh6
   refine SEQ (RG (UU 1 [(4, I (-1))] (ENDOPS (NEXT (RF rfl (vi (-1)) ⟨-1, (by intro h9; first | omega | (refine ⟨?_, ?_, ?_, ?_, ?_, ?_⟩ <;> first | omega | (simp_all; done) | (simp_all; omega)))⟩ [] ?_ ?_)))))
   · rfl
   · rfl
  ·
   have h6 := of_decide_eq_false bh6
   refine SKIP (NEXT (SEQ (RG (UU 3 [(18, .v (.slice a_cabins_a a.cabins.length a_cabins_c)), (19, I m4)] (OPC (CA 11 #[.slice a_cabins_a a.cabins.length a_cabins_c, vi m4] (some 20) (⟨{x : Int // 0 ≤ x → x + ((a.cabins).length : Int) ≤ m4 ∧ ∀ c ∈ a.cabins, CabinSz c}, fun q => vi q.1, fun q => []⟩) (fun w hw => szCabinS_c w a.cabins a_cabins_a a_cabins_c (ha_cabins.fr hw.fr) m4 (by first | assumption | omega) (by first | assumption | omega)) ?_))))))
   rintro ⟨m7, hm8⟩
   try dsimp only at hm8
   refine UU 1 [(1, I m7)] (ENDOPS (NEXT (SEQ (SEQ (RG (UU 2 [(22, B (decide (m7 < 0)))] (NI (decide (m7 < 0)) (fun bh9 => ?_) (fun bh9 => ?_))))))))
   ·
    have h9 := of_decide_eq_true bh9
    refine SEQ (RG (UU 1 [(4, I (-1))] (ENDOPS (NEXT (RF rfl (vi (-1)) ⟨-1, (by intro h9; first | omega | (refine ⟨?_, ?_, ?_, ?_, ?_, ?_⟩ <;> first | omega | (simp_all; done) | (simp_all; omega)))⟩ [] ?_ ?_)))))
    · rfl
    · rfl
   ·
    have h9 := of_decide_eq_false bh9
    refine SKIP (NEXT (SEQ (RG (UU 3 [(24, .v (.slice a_todo_a a.todo.length a_todo_c)), (25, I m7)] (OPC (CA 12 #[.slice a_todo_a a.todo.length a_todo_c, vi m7] (some 26) (⟨{x : Int // 0 ≤ x → x + ((a.todo).length : Int) ≤ m7}, fun q => vi q.1, fun q => []⟩) (fun w hw => szIntS_c w a.todo a_todo_a a_todo_c (ha_todo.fr hw.fr) m7 (by first | assumption | omega) (by first | assumption | omega)) ?_))))))
    rintro ⟨m10, hm11⟩
    try dsimp only at hm11
    refine UU 1 [(1, I m10)] (ENDOPS (NEXT (SEQ (SEQ (RG (UU 2 [(28, B (decide (m10 < 0)))] (NI (decide (m10 < 0)) (fun bh12 => ?_) (fun bh12 => ?_))))))))
    ·
     have h12 := of_decide_eq_true bh12
     refine SEQ (RG (UU 1 [(4, I (-1))] (ENDOPS (NEXT (RF rfl (vi (-1)) ⟨-1, (by intro h9; first | omega | (refine ⟨?_, ?_, ?_, ?_, ?_, ?_⟩ <;> first | omega | (simp_all; done) | (simp_all; omega)))⟩ [] ?_ ?_)))))
     · rfl
     · rfl
    ·
     have h12 := of_decide_eq_false bh12
     refine SKIP (NEXT (SEQ (RG (UU 3 [(30, .v (.slice a_jobs_a a.jobs.length a_jobs_c)), (31, I m10)] (OPC (CA 12 #[.slice a_jobs_a a.jobs.length a_jobs_c, vi m10] (some 32) (⟨{x : Int // 0 ≤ x → x + ((a.jobs).length : Int) ≤ m10}, fun q => vi q.1, fun q => []⟩) (fun w hw => szIntS_c w a.jobs a_jobs_a a_jobs_c (ha_jobs.fr hw.fr) m10 (by first | assumption | omega) (by first | assumption | omega)) ?_))))))
     rintro ⟨m13, hm14⟩
     try dsimp only at hm14
     refine UU 1 [(1, I m13)] (ENDOPS (NEXT (SEQ (SEQ (RG (UU 2 [(34, B (decide (m13 < 0)))] (NI (decide (m13 < 0)) (fun bh15 => ?_) (fun bh15 => ?_))))))))
     ·
      have h15 := of_decide_eq_true bh15
      refine SEQ (RG (UU 1 [(4, I (-1))] (ENDOPS (NEXT (RF rfl (vi (-1)) ⟨-1, (by intro h9; first | omega | (refine ⟨?_, ?_, ?_, ?_, ?_, ?_⟩ <;> first | omega | (simp_all; done) | (simp_all; omega)))⟩ [] ?_ ?_)))))
      · rfl
      · rfl
     ·
      have h15 := of_decide_eq_false bh15
      refine SKIP (NEXT (SEQ (RG (UU 2 [(4, I m13)] (ENDOPS (NEXT (RF rfl (vi m13) ⟨m13, (by intro h9; first | omega | (refine ⟨?_, ?_, ?_, ?_, ?_, ?_⟩ <;> first | omega | (simp_all; done) | (simp_all; omega)))⟩ [] ?_ ?_)))))))
      · rfl
      · rfl

end SX
end Go.Proofs.YtgbfemglimebdaaGreatDoor
