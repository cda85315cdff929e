/- Walks, printed by program. -/
import Derived.Test.YthnbaikmbgaddaaGreatSxz
import Derived.Test.YthnbaikmbgaddaaGreatMdlu
import Derived.Test.YthnbaikmbgaddaaGreatMdlm
import Derived.Test.YthnbaikmbgaddaaGreatSxd
import Derived.Test.YthnbaikmbgaddaaGreatSxe
import Derived.Test.YthnbaikmbgaddaaGreatSxc
import Derived.Test.YthnbaikmbgaddaaGreatProg
namespace Go.Proofs.YthnbaikmbgaddaaGreat
namespace SX
open Go Go.RowKit
set_option linter.unusedVariables false
set_option linter.unusedSimpArgs false
set_option maxRecDepth 10000
set_option maxHeartbeats 400000
private theorem z6 {p : Prop} (h : p := by intro h9; omega) : p := h
private theorem z5 {p : Prop} (h : p := by first | assumption | omega) : p := h
private theorem z4 {p : Prop} (h : p := by intro h9; first | omega | (dsimp only at *; omega)) : p := h
private theorem z3 {p : Prop} (h : p := by intro h9; first | omega | (rw [List.take_of_length_le (by simp at hk; omega)] at hv1; omega)) : p := h
private theorem z2 {p : Prop} (h : p := by intro h9; first | omega | (rw [List.take_of_length_le (by simp at hk; omega)] at hv1; exact ⟨by omega, hv1.2⟩)) : p := h
private theorem z1 {p : Prop} (h : p := by intro h9; first | omega | (refine ⟨?_, ?_, ?_, ?_, ?_, ?_⟩ <;> first | omega | (simp_all; done) | (simp_all; omega))) : p := h
theorem szIntS_c (W : World) (a : List Int) (a_a : Option Addr) (a_c : Nat) (ha : Rd intL W a_a a) (left : Int) (hl : left ≤ 1048576) (hl0 : 0 ≤ left) : Spec Tryz.prog W [] 98 #[.slice a_a a.length a_c, vi left] (⟨{x : Int // 0 ≤ x → x + ((a).length : Int) ≤ left}, fun q => vi q.1, fun q => []⟩) := by
 refine ENTER0 (N := 12) (vs := [.slice a_a a.length a_c, vi left]) Tryz.func98 rfl rfl (NL rfl) ?_
 have hal9 := ha.len; have hwl : wr (left - (a.length : Int)) = left - (a.length : Int) := wr_of LO LO
 have ha_len := ha.len
 refine XG (UU 1 [] (NR (UU 5 [(1, I (wr (left - (a.length : Int))))] (XN (SEQ (XG (UU 2 [(10, B (decide ((wr (left - (a.length : Int))) < 0)))] (NI (decide ((wr (left - (a.length : Int))) < 0)) (dT fun h1 bh1 => ?_) (dF fun h1 bh1 => ?_)))))))))
 · refine XG (UU 1 [(4, I (-1))] (XF rfl (vi (-1)) ⟨-1, z6⟩ [] rfl))
 refine XK (XG (UU 2 [(4, I (wr (left - (a.length : Int))))] (XF rfl (vi (wr (left - (a.length : Int)))) ⟨wr (left - (a.length : Int)), z6⟩ [] rfl)))

theorem szRules_c (W : World) (a : Rules) (a9a : Option Addr) (a9c : Nat) (ha9 : Rd intL W a9a a.seats) (left : Int) (hl : left ≤ 1048576) (hl0 : 0 ≤ left) : Spec Tryz.prog W [] 95 #[.agg (rC a a9a a9c).toArray, vi left] (⟨{x : Int // 0 ≤ x → x + ((a).seats.length : Int) ≤ left}, fun q => vi q.1, fun q => []⟩) := by
 refine ENTER0 (N := 12) (vs := [.agg (rC a a9a a9c).toArray, vi left]) Tryz.func95 rfl rfl (NL rfl) ?_
 have ha9len := ha9.len
 refine XG (UL 2 [(2, .p 0 0)] [(58, (rC a a9a a9c))] (NR (UU 3 [(6, .v (.slice a9a a.seats.length a9c)), (7, I left)] (OPC (CX 8 (fun w hw => szIntS_c w a.seats a9a a9c (ha9.fr hw.fr) left z5 z5) ?_)))))
 rintro ⟨m1, hm2⟩
 try dsimp only at hm2
 refine UU 1 [(1, I m1)] (XN (SEQ (XG (UU 2 [(10, B (decide (m1 < 0)))] (NI (decide (m1 < 0)) (dT fun h3 bh3 => ?_) (dF fun h3 bh3 => ?_))))))
 · refine XG (UU 1 [(4, I (-1))] (XF rfl (vi (-1)) ⟨-1, z4⟩ [] rfl))
 refine XK (XG (UU 2 [(4, I m1)] (XF rfl (vi m1) ⟨m1, z4⟩ [] rfl)))

theorem szPartyS_c (W : World) (a : List Party) (a_a : Option Addr) (a_c : Nat) (ha : Rd partyL W a_a a) (left : Int) (hl : left ≤ 1048576) (hl0 : 0 ≤ left) : Spec Tryz.prog W [] 96 #[.slice a_a a.length a_c, vi left] (⟨{x : Int // 0 ≤ x → x + ((a).length : Int) ≤ left}, fun q => vi q.1, fun q => []⟩) := by
 refine ENTER0 (N := 12) (vs := [.slice a_a a.length a_c, vi left]) Tryz.func96 rfl rfl (NL rfl) ?_
 have hal9 := ha.len; have hwl : wr (left - (a.length : Int)) = left - (a.length : Int) := wr_of LO LO
 have ha_len := ha.len
 refine XG (UU 1 [] (NR (UU 5 [(1, I (wr (left - (a.length : Int))))] (XN (SEQ (XG (UU 2 [(10, B (decide ((wr (left - (a.length : Int))) < 0)))] (NI (decide ((wr (left - (a.length : Int))) < 0)) (dT fun h1 bh1 => ?_) (dF fun h1 bh1 => ?_)))))))))
 · refine XG (UU 1 [(4, I (-1))] (XF rfl (vi (-1)) ⟨-1, z6⟩ [] rfl))
 refine XK (XG (UU 2 [(4, I (wr (left - (a.length : Int))))] (XF rfl (vi (wr (left - (a.length : Int)))) ⟨wr (left - (a.length : Int)), z6⟩ [] rfl)))

theorem szEntryS_c (W : World) (a : List Entry) (a_a : Option Addr) (a_c : Nat) (ha : Rd entryL W a_a a) (left : Int) (hl : left ≤ 1048576) (hl0 : 0 ≤ left) : Spec Tryz.prog W [] 274 #[.slice a_a a.length a_c, vi left] (⟨{x : Int // 0 ≤ x → x + ((a).length : Int) ≤ left}, fun q => vi q.1, fun q => []⟩) := by
 refine ENTER0 (N := 12) (vs := [.slice a_a a.length a_c, vi left]) Tryz.func274 rfl rfl (NL rfl) ?_
 have hal9 := ha.len; have hwl : wr (left - (a.length : Int)) = left - (a.length : Int) := wr_of LO LO
 have ha_len := ha.len
 refine XG (UU 1 [] (NR (UU 5 [(1, I (wr (left - (a.length : Int))))] (XN (SEQ (XG (UU 2 [(10, B (decide ((wr (left - (a.length : Int))) < 0)))] (NI (decide ((wr (left - (a.length : Int))) < 0)) (dT fun h1 bh1 => ?_) (dF fun h1 bh1 => ?_)))))))))
 · refine XG (UU 1 [(4, I (-1))] (XF rfl (vi (-1)) ⟨-1, z6⟩ [] rfl))
 refine XK (XG (UU 2 [(4, I (wr (left - (a.length : Int))))] (XF rfl (vi (wr (left - (a.length : Int)))) ⟨wr (left - (a.length : Int)), z6⟩ [] rfl)))

theorem szPinS_c (W : World) (a : List Pin) (a_a : Option Addr) (a_c : Nat) (ha : Rd pinL W a_a a) (left : Int) (hl : left ≤ 1048576) (hl0 : 0 ≤ left) : Spec Tryz.prog W [] 363 #[.slice a_a a.length a_c, vi left] (⟨{x : Int // 0 ≤ x → x + ((a).length : Int) ≤ left}, fun q => vi q.1, fun q => []⟩) := by
 refine ENTER0 (N := 12) (vs := [.slice a_a a.length a_c, vi left]) Tryz.func363 rfl rfl (NL rfl) ?_
 have hal9 := ha.len; have hwl : wr (left - (a.length : Int)) = left - (a.length : Int) := wr_of LO LO
 have ha_len := ha.len
 refine XG (UU 1 [] (NR (UU 5 [(1, I (wr (left - (a.length : Int))))] (XN (SEQ (XG (UU 2 [(10, B (decide ((wr (left - (a.length : Int))) < 0)))] (NI (decide ((wr (left - (a.length : Int))) < 0)) (dT fun h1 bh1 => ?_) (dF fun h1 bh1 => ?_)))))))))
 · refine XG (UU 1 [(4, I (-1))] (XF rfl (vi (-1)) ⟨-1, z6⟩ [] rfl))
 refine XK (XG (UU 2 [(4, I (wr (left - (a.length : Int))))] (XF rfl (vi (wr (left - (a.length : Int)))) ⟨wr (left - (a.length : Int)), z6⟩ [] rfl)))

theorem szPinSS_c (W : World) (a : List (List Pin)) (a_a : Option Addr) (a_c : Nat) (ha : Rd (sl 290 pinL) W a_a a) (left : Int) (hl : left ≤ 1048576) (hl0 : 0 ≤ left) : Spec Tryz.prog W [] 332 #[.slice a_a a.length a_c, vi left] (⟨{x : Int // 0 ≤ x → x + ((a).length : Int) + ((a).flatten.length : Int) ≤ left}, fun q => vi q.1, fun q => []⟩) := by
 refine ENTER0 (N := 27) (vs := [.slice a_a a.length a_c, vi left]) Tryz.func332 rfl rfl (NL rfl) ?_
 have hal9 := ha.len; have hwl : wr (left - (a.length : Int)) = left - (a.length : Int) := wr_of LO LO
 have ha_len := ha.len
 refine XG (UU 1 [] (NR (UU 5 [(1, I (wr (left - (a.length : Int))))] (XN (SEQ (XG (UU 2 [(11, B (decide ((wr (left - (a.length : Int))) < 0)))] (NI (decide ((wr (left - (a.length : Int))) < 0)) (dT fun h1 bh1 => ?_) (dF fun h1 bh1 => ?_)))))))))
 · refine XG (UU 1 [(4, I (-1))] (XF rfl (vi (-1)) ⟨-1, z3⟩ [] rfl))
 refine XK (SEQ (XG (UU 1 [(5, I 0)] (XN (BLOCK (LOOP (ι := Nat × (List (List Pin)) × Int) (fun j => [(0, .v (.slice a_a a.length a_c)), (1, I j.2.2), (5, I (j.1 : Int))]) (fun j => []) (fun j => []) (fun j => j.1 + j.2.1.length = a.length ∧ a.drop j.1 = j.2.1 ∧ 0 ≤ j.2.2 ∧ j.2.2 + (a.length : Int) + ((a.take j.1).flatten.length : Int) ≤ left) (fun j => j.2.1.length) (0, a, wr (left - (a.length : Int))) [0, 1, 5] ⟨by simp, rfl, by dsimp only; omega, by simp only [List.take_zero, List.flatten_nil, List.length_nil]; omega⟩ KR rfl rfl ?_))))))
 rintro ⟨k, ys, lf⟩ ⟨hk, hd, hv0, hv1⟩
 try dsimp only at hk hd hv0 hv1
 refine SEQ (XG (UU 4 [(15, B (decide ((k : Int) < (a.length : Int))))] (NI (decide ((k : Int) < (a.length : Int))) (dT fun h2 bh2 => ?_) (dF fun h2 bh2 => ?_))))
 ·
  obtain ⟨y3, ys4, rfl, hx_y3, hd_y3, hl_y3⟩ := drop_cons hd hk LO
  refine XK (SEQ (BLOCK (XG (UU 2 [(18, .v (.slice a_a a.length a_c)), (19, I (k : Int))] ?_))))
  obtain ⟨a5, c6, hel8, hi7, hi7_cap⟩ := sl_view ha hx_y3
  have hi7_len := hi7.len
  refine OPC (IX 174 (.tmp 18) (.tmp 19) 20 0 a_a a.length a_c .i64 (k : Int) 276 1 (Rd.some ha LO) LO LO (OPC (LE 276 (.tmp 20) 21 276 a_a (k * 1) 0 ([.slice a5 y3.length c6]) (.slice a5 y3.length c6) (fun w hw => hel8.fr hw.fr) (UU 1 [(22, I lf)] (OPC (CX 23 (fun w hw => szPinS_c w y3 a5 c6 (hi7.fr hw.fr) lf z5 z5) ?_))))))
  rintro ⟨m9, hm10⟩
  try dsimp only at hm10
  refine UU 1 [(1, I m9)] (NR (UU 2 [(25, B (decide (m9 < 0)))] (NI (decide (m9 < 0)) (dT fun h11 bh11 => ?_) (dF fun h11 bh11 => ?_))))
  · refine XG (UU 1 [(4, I (-1))] (XF rfl (vi (-1)) ⟨-1, z3⟩ [] rfl))
  refine SKIP (OUTN (NEXT (RG (UU 2 [(17, I (wr ((k : Int) + 1)))] (CS 17 (vi (wr ((k : Int) + 1))) (vi ((k + 1 : Nat) : Int)) VC (UU 1 [(5, I ((k + 1 : Nat) : Int))] (ENDOPS (BK (k + 1, ys4, m9) [0, 1, 5] 0 [] ⟨hl_y3, hd_y3, LD, (by rw [flat_take hx_y3, List.length_append]; dsimp only; omega)⟩ (by simp)))))))))
 obtain rfl := drop_nil hk LO
 refine EXIT (PASS trivial (PASS trivial (OUT (NEXT (XG (UU 2 [(4, I lf)] (XF rfl (vi lf) ⟨lf, z3⟩ [] rfl)))))))

theorem szWheel_c (W : World) (a : Wheel) (a8a : Option Addr) (a8c : Nat) (ha8 : Rd (sl 290 pinL) W a8a a.spoke) (left : Int) (hl : left ≤ 1048576) (hl0 : 0 ≤ left) : Spec Tryz.prog W [] 275 #[.agg #[.slice a8a a.spoke.length a8c], vi left] (⟨{x : Int // 0 ≤ x → x + ((a).spoke.length : Int) + ((a).spoke.flatten.length : Int) ≤ left}, fun q => vi q.1, fun q => []⟩) := by
 refine ENTER0 (N := 12) (vs := [.agg #[.slice a8a a.spoke.length a8c], vi left]) Tryz.func275 rfl rfl (NL rfl) ?_
 have ha8len := ha8.len
 refine XG (UL 2 [(2, .p 0 0)] [(176, [.slice a8a a.spoke.length a8c])] (NR (UU 3 [(6, .v (.slice a8a a.spoke.length a8c)), (7, I left)] (OPC (CX 8 (fun w hw => szPinSS_c w a.spoke a8a a8c (ha8.fr hw.fr) left z5 z5) ?_)))))
 rintro ⟨m1, hm2⟩
 try dsimp only at hm2
 refine UU 1 [(1, I m1)] (XN (SEQ (XG (UU 2 [(10, B (decide (m1 < 0)))] (NI (decide (m1 < 0)) (dT fun h3 bh3 => ?_) (dF fun h3 bh3 => ?_))))))
 · refine XG (UU 1 [(4, I (-1))] (XF rfl (vi (-1)) ⟨-1, z4⟩ [] rfl))
 refine XK (XG (UU 2 [(4, I m1)] (XF rfl (vi m1) ⟨m1, z4⟩ [] rfl)))

theorem szCabin_c (W : World) (a : Cabin) (a6a : Option Addr) (a6c : Nat) (ha6 : Rd entryL W a6a a.row) (a7a : Option Addr) (a7c : Nat) (ha7 : Rd (sl 290 pinL) W a7a a.wheel.spoke) (left : Int) (hl : left ≤ 1048576) (hl0 : 0 ≤ left) : Spec Tryz.prog W [] 198 #[.agg (caC a a6a a6c a7a a7c).toArray, vi left] (⟨{x : Int // 0 ≤ x → x + ((a).row.length : Int) + ((a).wheel.spoke.length : Int) + ((a).wheel.spoke.flatten.length : Int) ≤ left}, fun q => vi q.1, fun q => []⟩) := by
 refine ENTER0 (N := 18) (vs := [.agg (caC a a6a a6c a7a a7c).toArray, vi left]) Tryz.func198 rfl rfl (NL rfl) ?_
 have ha6len := ha6.len
 have ha7len := ha7.len
 refine XG (UL 2 [(2, .p 0 0)] [(178, (caC a a6a a6c a7a a7c))] (NR (UU 3 [(6, .v (.slice a6a a.row.length a6c)), (7, I left)] (OPC (CX 8 (fun w hw => szEntryS_c w a.row a6a a6c (ha6.fr hw.fr) left z5 z5) ?_)))))
 rintro ⟨m1, hm2⟩
 try dsimp only at hm2
 refine UU 1 [(1, I m1)] (XN (SEQ (XG (UU 2 [(10, B (decide (m1 < 0)))] (NI (decide (m1 < 0)) (dT fun h3 bh3 => ?_) (dF fun h3 bh3 => ?_))))))
 · refine XG (UU 1 [(4, I (-1))] (XF rfl (vi (-1)) ⟨-1, z4⟩ [] rfl))
 refine XK (XG (UU 3 [(12, .v (.agg #[.slice a7a a.wheel.spoke.length a7c])), (13, I m1)] (OPC (CX 14 (fun w hw => szWheel_c w a.wheel a7a a7c (ha7.fr hw.fr) m1 z5 z5) ?_))))
 rintro ⟨m4, hm5⟩
 try dsimp only at hm5
 refine UU 1 [(1, I m4)] (XN (SEQ (XG (UU 2 [(16, B (decide (m4 < 0)))] (NI (decide (m4 < 0)) (dT fun h6 bh6 => ?_) (dF fun h6 bh6 => ?_))))))
 · refine XG (UU 1 [(4, I (-1))] (XF rfl (vi (-1)) ⟨-1, z4⟩ [] rfl))
 refine XK (XG (UU 2 [(4, I m4)] (XF rfl (vi m4) ⟨m4, z4⟩ [] rfl)))

theorem szCabinS_c (W : World) (a : List Cabin) (a_a : Option Addr) (a_c : Nat) (ha : Rd (cabinLx 256 276 290) W a_a a) (left : Int) (hl : left ≤ 1048576) (hl0 : 0 ≤ left) : Spec Tryz.prog W [] 97 #[.slice a_a a.length a_c, vi left] (⟨{x : Int // 0 ≤ x → x + ((a).length : Int) ≤ left ∧ ∀ c ∈ a, CabinSz c}, fun q => vi q.1, fun q => []⟩) := by
 refine ENTER0 (N := 27) (vs := [.slice a_a a.length a_c, vi left]) Tryz.func97 rfl rfl (NL rfl) ?_
 have hal9 := ha.len; have hwl : wr (left - (a.length : Int)) = left - (a.length : Int) := wr_of LO LO
 have ha_len := ha.len
 refine XG (UU 1 [] (NR (UU 5 [(1, I (wr (left - (a.length : Int))))] (XN (SEQ (XG (UU 2 [(11, B (decide ((wr (left - (a.length : Int))) < 0)))] (NI (decide ((wr (left - (a.length : Int))) < 0)) (dT fun h1 bh1 => ?_) (dF fun h1 bh1 => ?_)))))))))
 · refine XG (UU 1 [(4, I (-1))] (XF rfl (vi (-1)) ⟨-1, z2⟩ [] rfl))
 refine XK (SEQ (XG (UU 1 [(5, I 0)] (XN (BLOCK (LOOP (ι := Nat × (List Cabin) × Int) (fun j => [(0, .v (.slice a_a a.length a_c)), (1, I j.2.2), (5, I (j.1 : Int))]) (fun j => []) (fun j => []) (fun j => j.1 + j.2.1.length = a.length ∧ a.drop j.1 = j.2.1 ∧ 0 ≤ j.2.2 ∧ (j.2.2 + (a.length : Int) ≤ left ∧ ∀ c ∈ a.take j.1, CabinSz c)) (fun j => j.2.1.length) (0, a, wr (left - (a.length : Int))) [0, 1, 5] ⟨by simp, rfl, by dsimp only; omega, ⟨by dsimp only; omega, by simp⟩⟩ KR rfl rfl ?_))))))
 rintro ⟨k, ys, lf⟩ ⟨hk, hd, hv0, hv1⟩
 try dsimp only at hk hd hv0 hv1
 refine SEQ (XG (UU 4 [(15, B (decide ((k : Int) < (a.length : Int))))] (NI (decide ((k : Int) < (a.length : Int))) (dT fun h2 bh2 => ?_) (dF fun h2 bh2 => ?_))))
 ·
  obtain ⟨y3, ys4, rfl, hx_y3, hd_y3, hl_y3⟩ := drop_cons hd hk LO
  refine XK (SEQ (BLOCK (XG (UU 2 [(18, .v (.slice a_a a.length a_c)), (19, I (k : Int))] ?_))))
  obtain ⟨a5, c6, a8, c9, hel11, hi7, hi10, hi7_cap, hi10_cap⟩ := cabin_view ha hx_y3
  have hi7_len := hi7.len
  have hi10_len := hi10.len
  refine OPC (IX 60 (.tmp 18) (.tmp 19) 20 0 a_a a.length a_c .i64 (k : Int) 178 7 (Rd.some ha LO) LO LO (OPC (LE 178 (.tmp 20) 21 178 a_a (k * 7) 0 ((caC y3 a5 c6 a8 c9)) (.agg (caC y3 a5 c6 a8 c9).toArray) (fun w hw => hel11.fr hw.fr) (UU 1 [(22, I lf)] (OPC (CX 23 (fun w hw => szCabin_c w y3 a5 c6 (hi7.fr hw.fr) a8 c9 (hi10.fr hw.fr) lf z5 z5) ?_))))))
  rintro ⟨m12, hm13⟩
  try dsimp only at hm13
  refine UU 1 [(1, I m12)] (NR (UU 2 [(25, B (decide (m12 < 0)))] (NI (decide (m12 < 0)) (dT fun h14 bh14 => ?_) (dF fun h14 bh14 => ?_))))
  · refine XG (UU 1 [(4, I (-1))] (XF rfl (vi (-1)) ⟨-1, z2⟩ [] rfl))
  refine SKIP (OUTN (NEXT (RG (UU 2 [(17, I (wr ((k : Int) + 1)))] (CS 17 (vi (wr ((k : Int) + 1))) (vi ((k + 1 : Nat) : Int)) VC (UU 1 [(5, I ((k + 1 : Nat) : Int))] (ENDOPS (BK (k + 1, ys4, m12) [0, 1, 5] 0 [] ⟨hl_y3, hd_y3, LD, ⟨by dsimp only; omega, fun c hc => by rw [List.take_add_one, hx_y3] at hc; rcases List.mem_append.1 hc with h | h; exact hv1.2 c h; (simp at h; subst h; exact ⟨by omega, by omega, by omega⟩)⟩⟩ (by simp)))))))))
 obtain rfl := drop_nil hk LO
 refine EXIT (PASS trivial (PASS trivial (OUT (NEXT (XG (UU 2 [(4, I lf)] (XF rfl (vi lf) ⟨lf, z2⟩ [] rfl)))))))

theorem szHouse_c (W : World) (a : House) (a1a : Option Addr) (a1c : Nat) (ha1 : Rd intL W a1a a.rules.seats) (a2a : Option Addr) (a2c : Nat) (ha2 : Rd partyL W a2a a.parties) (a3a : Option Addr) (a3c : Nat) (ha3 : Rd (cabinLx 256 276 290) W a3a a.cabins) (a4a : Option Addr) (a4c : Nat) (ha4 : Rd intL W a4a a.todo) (a5a : Option Addr) (a5c : Nat) (ha5 : Rd intL W a5a a.jobs) (left : Int) (hl : left ≤ 1048576) (hl0 : 0 ≤ left) : Spec Tryz.prog W [] 30 #[.agg (hC a a1a a1c a2a a2c a3a a3c a4a a4c a5a a5c).toArray, vi left] (⟨{x : Int // 0 ≤ x → HouseSz a}, fun q => vi q.1, fun q => []⟩) := by
 refine ENTER0 (N := 36) (vs := [.agg (hC a a1a a1c a2a a2c a3a a3c a4a a4c a5a a5c).toArray, vi left]) Tryz.func30 rfl rfl (NL rfl) ?_
 have ha1len := ha1.len
 have ha2len := ha2.len
 have ha3len := ha3.len
 have ha4len := ha4.len
 have ha5len := ha5.len
 refine XG (UL 2 [(2, .p 0 0)] [(62, (hC a a1a a1c a2a a2c a3a a3c a4a a4c a5a a5c))] (NR (UU 3 [(6, .v (.agg (rC a.rules a1a a1c).toArray)), (7, I left)] (OPC (CX 8 (fun w hw => szRules_c w a.rules a1a a1c (ha1.fr hw.fr) left z5 z5) ?_)))))
 rintro ⟨m1, hm2⟩
 try dsimp only at hm2
 refine UU 1 [(1, I m1)] (XN (SEQ (XG (UU 2 [(10, B (decide (m1 < 0)))] (NI (decide (m1 < 0)) (dT fun h3 bh3 => ?_) (dF fun h3 bh3 => ?_))))))
 ·
  refine XG (UU 1 [(4, I (-1))] (XF rfl (vi (-1)) ⟨-1, z1⟩ [] ?_ (hp := ?_)))
  · rfl
  rfl
 refine XK (XG (UU 3 [(12, .v (.slice a2a a.parties.length a2c)), (13, I m1)] (OPC (CX 14 (fun w hw => szPartyS_c w a.parties a2a a2c (ha2.fr hw.fr) m1 z5 z5) ?_))))
 rintro ⟨m4, hm5⟩
 try dsimp only at hm5
 refine UU 1 [(1, I m4)] (XN (SEQ (XG (UU 2 [(16, B (decide (m4 < 0)))] (NI (decide (m4 < 0)) (dT fun h6 bh6 => ?_) (dF fun h6 bh6 => ?_))))))
 ·
  refine XG (UU 1 [(4, I (-1))] (XF rfl (vi (-1)) ⟨-1, z1⟩ [] ?_ (hp := ?_)))
  · rfl
  rfl
 refine XK (XG (UU 3 [(18, .v (.slice a3a a.cabins.length a3c)), (19, I m4)] (OPC (CX 20 (fun w hw => szCabinS_c w a.cabins a3a a3c (ha3.fr hw.fr) m4 z5 z5) ?_))))
 rintro ⟨m7, hm8⟩
 try dsimp only at hm8
 refine UU 1 [(1, I m7)] (XN (SEQ (XG (UU 2 [(22, B (decide (m7 < 0)))] (NI (decide (m7 < 0)) (dT fun h9 bh9 => ?_) (dF fun h9 bh9 => ?_))))))
 ·
  refine XG (UU 1 [(4, I (-1))] (XF rfl (vi (-1)) ⟨-1, z1⟩ [] ?_ (hp := ?_)))
  · rfl
  rfl
 refine XK (XG (UU 3 [(24, .v (.slice a4a a.todo.length a4c)), (25, I m7)] (OPC (CX 26 (fun w hw => szIntS_c w a.todo a4a a4c (ha4.fr hw.fr) m7 z5 z5) ?_))))
 rintro ⟨m10, hm11⟩
 try dsimp only at hm11
 refine UU 1 [(1, I m10)] (XN (SEQ (XG (UU 2 [(28, B (decide (m10 < 0)))] (NI (decide (m10 < 0)) (dT fun h12 bh12 => ?_) (dF fun h12 bh12 => ?_))))))
 ·
  refine XG (UU 1 [(4, I (-1))] (XF rfl (vi (-1)) ⟨-1, z1⟩ [] ?_ (hp := ?_)))
  · rfl
  rfl
 refine XK (XG (UU 3 [(30, .v (.slice a5a a.jobs.length a5c)), (31, I m10)] (OPC (CX 32 (fun w hw => szIntS_c w a.jobs a5a a5c (ha5.fr hw.fr) m10 z5 z5) ?_))))
 rintro ⟨m13, hm14⟩
 try dsimp only at hm14
 refine UU 1 [(1, I m13)] (XN (SEQ (XG (UU 2 [(34, B (decide (m13 < 0)))] (NI (decide (m13 < 0)) (dT fun h15 bh15 => ?_) (dF fun h15 bh15 => ?_))))))
 ·
  refine XG (UU 1 [(4, I (-1))] (XF rfl (vi (-1)) ⟨-1, z1⟩ [] ?_ (hp := ?_)))
  · rfl
  rfl
 refine XK (XG (UU 2 [(4, I m13)] (XF rfl (vi m13) ⟨m13, z1⟩ [] ?_ (hp := ?_))))
 · rfl
 rfl

end SX
end Go.Proofs.YthnbaikmbgaddaaGreat
