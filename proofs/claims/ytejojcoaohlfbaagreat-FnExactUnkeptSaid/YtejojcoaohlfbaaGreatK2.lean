/- Texts of this claim, put together by program. -/
import Derived.Test.YtejojcoaohlfbaaGreatSx9
import Derived.Test.YtejojcoaohlfbaaGreatMdlm
import Derived.Test.YtejojcoaohlfbaaGreatSxd
import Derived.Test.YtejojcoaohlfbaaGreatProg
namespace Go.Proofs.YtejojcoaohlfbaaGreat
namespace SX
open Go Go.RowKit
set_option linter.unusedVariables false
set_option linter.unusedSimpArgs false
set_option maxRecDepth 10000
set_option maxHeartbeats 400000
private theorem z6K1 {p : Prop} (h : p := by intro h9; omega) : p := h
private theorem z5K1 {p : Prop} (h : p := by first | assumption | omega) : p := h
private theorem z4K1 {p : Prop} (h : p := by intro h9; first | omega | (dsimp only at *; omega)) : p := h
private theorem z3K1 {p : Prop} (h : p := by intro h9; first | omega | (rw [List.take_of_length_le (by simp at hk; omega)] at hv1; omega)) : p := h
private theorem z2K1 {p : Prop} (h : p := by intro h9; first | omega | (rw [List.take_of_length_le (by simp at hk; omega)] at hv1; exact ⟨by omega, hv1.2⟩)) : p := h
private theorem z1K1 {p : Prop} (h : p := by intro h9; first | omega | (refine ⟨?_, ?_, ?_, ?_, ?_, ?_, ?_⟩ <;> first | omega | (simp_all; done) | (simp_all; omega))) : p := h
theorem szIntS_c (W : World) (a : List Int) (a_a : Option Addr) (a_c : Nat) (ha : Rd intL W a_a a) (left : Int) (hl : left ≤ 1048576) (hl0 : 0 ≤ left) : Spec Tryz.prog W [] 79 #[.slice a_a a.length a_c, vi left] (⟨{x : Int // 0 ≤ x → x + ((a).length : Int) ≤ left}, fun q => vi q.1, fun q => []⟩) := by
 refine ENTER0 (N := 12) (vs := [.slice a_a a.length a_c, vi left]) Tryz.func79 rfl rfl (NL rfl) ?_
 have hal9 := ha.len; have hwl : wr (left - (a.length : Int)) = left - (a.length : Int) := wr_of LO LO
 have ha_len := ha.len
 refine XG (UU 1 [] (NR (UU 5 [(1, I (wr (left - (a.length : Int))))] (XN (SEQ (XG (UU 2 [(10, B (decide ((wr (left - (a.length : Int))) < 0)))] (NI (decide ((wr (left - (a.length : Int))) < 0)) (dT fun h1 bh1 => ?_) (dF fun h1 bh1 => ?_)))))))))
 · refine XG (UU 1 [(4, I (-1))] (XF rfl (vi (-1)) ⟨-1, z6K1⟩ [] rfl))
 refine XK (XG (UU 2 [(4, I (wr (left - (a.length : Int))))] (XF rfl (vi (wr (left - (a.length : Int)))) ⟨wr (left - (a.length : Int)), z6K1⟩ [] rfl)))
theorem szRules_c (W : World) (a : Rules) (a9a : Option Addr) (a9c : Nat) (ha9 : Rd intL W a9a a.seats) (left : Int) (hl : left ≤ 1048576) (hl0 : 0 ≤ left) : Spec Tryz.prog W [] 76 #[.agg (rC a a9a a9c).toArray, vi left] (⟨{x : Int // 0 ≤ x → x + ((a).seats.length : Int) ≤ left}, fun q => vi q.1, fun q => []⟩) := by
 refine ENTER0 (N := 12) (vs := [.agg (rC a a9a a9c).toArray, vi left]) Tryz.func76 rfl rfl (NL rfl) ?_
 have ha9len := ha9.len
 refine XG (UL 2 [(2, .p 0 0)] [(24, (rC a a9a a9c))] (NR (UU 3 [(6, .v (.slice a9a a.seats.length a9c)), (7, I left)] (OPC (CX 8 (fun w hw => szIntS_c w a.seats a9a a9c (ha9.fr hw.fr) left z5K1 z5K1) ?_)))))
 rintro ⟨m1, hm2⟩
 try dsimp only at hm2
 refine UU 1 [(1, I m1)] (XN (SEQ (XG (UU 2 [(10, B (decide (m1 < 0)))] (NI (decide (m1 < 0)) (dT fun h3 bh3 => ?_) (dF fun h3 bh3 => ?_))))))
 · refine XG (UU 1 [(4, I (-1))] (XF rfl (vi (-1)) ⟨-1, z4K1⟩ [] rfl))
 refine XK (XG (UU 2 [(4, I m1)] (XF rfl (vi m1) ⟨m1, z4K1⟩ [] rfl)))
theorem szPartyS_c (W : World) (a : List Party) (a_a : Option Addr) (a_c : Nat) (ha : Rd partyL W a_a a) (left : Int) (hl : left ≤ 1048576) (hl0 : 0 ≤ left) : Spec Tryz.prog W [] 77 #[.slice a_a a.length a_c, vi left] (⟨{x : Int // 0 ≤ x → x + ((a).length : Int) ≤ left}, fun q => vi q.1, fun q => []⟩) := by
 refine ENTER0 (N := 12) (vs := [.slice a_a a.length a_c, vi left]) Tryz.func77 rfl rfl (NL rfl) ?_
 have hal9 := ha.len; have hwl : wr (left - (a.length : Int)) = left - (a.length : Int) := wr_of LO LO
 have ha_len := ha.len
 refine XG (UU 1 [] (NR (UU 5 [(1, I (wr (left - (a.length : Int))))] (XN (SEQ (XG (UU 2 [(10, B (decide ((wr (left - (a.length : Int))) < 0)))] (NI (decide ((wr (left - (a.length : Int))) < 0)) (dT fun h1 bh1 => ?_) (dF fun h1 bh1 => ?_)))))))))
 · refine XG (UU 1 [(4, I (-1))] (XF rfl (vi (-1)) ⟨-1, z6K1⟩ [] rfl))
 refine XK (XG (UU 2 [(4, I (wr (left - (a.length : Int))))] (XF rfl (vi (wr (left - (a.length : Int)))) ⟨wr (left - (a.length : Int)), z6K1⟩ [] rfl)))
theorem szEntryS_c (W : World) (a : List Entry) (a_a : Option Addr) (a_c : Nat) (ha : Rd entryL W a_a a) (left : Int) (hl : left ≤ 1048576) (hl0 : 0 ≤ left) : Spec Tryz.prog W [] 268 #[.slice a_a a.length a_c, vi left] (⟨{x : Int // 0 ≤ x → x + ((a).length : Int) ≤ left}, fun q => vi q.1, fun q => []⟩) := by
 refine ENTER0 (N := 12) (vs := [.slice a_a a.length a_c, vi left]) Tryz.func268 rfl rfl (NL rfl) ?_
 have hal9 := ha.len; have hwl : wr (left - (a.length : Int)) = left - (a.length : Int) := wr_of LO LO
 have ha_len := ha.len
 refine XG (UU 1 [] (NR (UU 5 [(1, I (wr (left - (a.length : Int))))] (XN (SEQ (XG (UU 2 [(10, B (decide ((wr (left - (a.length : Int))) < 0)))] (NI (decide ((wr (left - (a.length : Int))) < 0)) (dT fun h1 bh1 => ?_) (dF fun h1 bh1 => ?_)))))))))
 · refine XG (UU 1 [(4, I (-1))] (XF rfl (vi (-1)) ⟨-1, z6K1⟩ [] rfl))
 refine XK (XG (UU 2 [(4, I (wr (left - (a.length : Int))))] (XF rfl (vi (wr (left - (a.length : Int)))) ⟨wr (left - (a.length : Int)), z6K1⟩ [] rfl)))
theorem szPinS_c (W : World) (a : List Pin) (a_a : Option Addr) (a_c : Nat) (ha : Rd pinL W a_a a) (left : Int) (hl : left ≤ 1048576) (hl0 : 0 ≤ left) : Spec Tryz.prog W [] 377 #[.slice a_a a.length a_c, vi left] (⟨{x : Int // 0 ≤ x → x + ((a).length : Int) ≤ left}, fun q => vi q.1, fun q => []⟩) := by
 refine ENTER0 (N := 12) (vs := [.slice a_a a.length a_c, vi left]) Tryz.func377 rfl rfl (NL rfl) ?_
 have hal9 := ha.len; have hwl : wr (left - (a.length : Int)) = left - (a.length : Int) := wr_of LO LO
 have ha_len := ha.len
 refine XG (UU 1 [] (NR (UU 5 [(1, I (wr (left - (a.length : Int))))] (XN (SEQ (XG (UU 2 [(10, B (decide ((wr (left - (a.length : Int))) < 0)))] (NI (decide ((wr (left - (a.length : Int))) < 0)) (dT fun h1 bh1 => ?_) (dF fun h1 bh1 => ?_)))))))))
 · refine XG (UU 1 [(4, I (-1))] (XF rfl (vi (-1)) ⟨-1, z6K1⟩ [] rfl))
 refine XK (XG (UU 2 [(4, I (wr (left - (a.length : Int))))] (XF rfl (vi (wr (left - (a.length : Int)))) ⟨wr (left - (a.length : Int)), z6K1⟩ [] rfl)))
theorem szPinSS_c (W : World) (a : List (List Pin)) (a_a : Option Addr) (a_c : Nat) (ha : Rd (sl 301 pinL) W a_a a) (left : Int) (hl : left ≤ 1048576) (hl0 : 0 ≤ left) : Spec Tryz.prog W [] 342 #[.slice a_a a.length a_c, vi left] (⟨{x : Int // 0 ≤ x → x + ((a).length : Int) + ((a).flatten.length : Int) ≤ left}, fun q => vi q.1, fun q => []⟩) := by
 refine ENTER0 (N := 27) (vs := [.slice a_a a.length a_c, vi left]) Tryz.func342 rfl rfl (NL rfl) ?_
 have hal9 := ha.len; have hwl : wr (left - (a.length : Int)) = left - (a.length : Int) := wr_of LO LO
 have ha_len := ha.len
 refine XG (UU 1 [] (NR (UU 5 [(1, I (wr (left - (a.length : Int))))] (XN (SEQ (XG (UU 2 [(11, B (decide ((wr (left - (a.length : Int))) < 0)))] (NI (decide ((wr (left - (a.length : Int))) < 0)) (dT fun h1 bh1 => ?_) (dF fun h1 bh1 => ?_)))))))))
 · refine XG (UU 1 [(4, I (-1))] (XF rfl (vi (-1)) ⟨-1, z3K1⟩ [] rfl))
 refine XK (SEQ (XG (UU 1 [(5, I 0)] (XN (BLOCK (LOOP (ι := Nat × (List (List Pin)) × Int) (fun j => [(0, .v (.slice a_a a.length a_c)), (1, I j.2.2), (5, I (j.1 : Int))]) (fun j => []) (fun j => []) (fun j => j.1 + j.2.1.length = a.length ∧ a.drop j.1 = j.2.1 ∧ 0 ≤ j.2.2 ∧ j.2.2 + (a.length : Int) + ((a.take j.1).flatten.length : Int) ≤ left) (fun j => j.2.1.length) (0, a, wr (left - (a.length : Int))) [0, 1, 5] ⟨by simp, rfl, by dsimp only; omega, by simp only [List.take_zero, List.flatten_nil, List.length_nil]; omega⟩ KR rfl rfl ?_))))))
 rintro ⟨k, ys, lf⟩ ⟨hk, hd, hv0, hv1⟩
 try dsimp only at hk hd hv0 hv1
 refine SEQ (XG (UU 4 [(15, B (decide ((k : Int) < (a.length : Int))))] (NI (decide ((k : Int) < (a.length : Int))) (dT fun h2 bh2 => ?_) (dF fun h2 bh2 => ?_))))
 ·
  obtain ⟨y3, ys4, rfl, hx_y3, hd_y3, hl_y3⟩ := drop_cons hd hk LO
  refine XK (SEQ (BLOCK (XG (UU 2 [(18, .v (.slice a_a a.length a_c)), (19, I (k : Int))] ?_))))
  obtain ⟨a5, c6, hel8, hi7, hi7_cap⟩ := sl_view ha hx_y3
  have hi7_len := hi7.len
  refine OPC (IX 172 (.tmp 18) (.tmp 19) 20 0 a_a a.length a_c .i64 (k : Int) 292 1 (Rd.some ha LO) LO LO (OPC (LE 292 (.tmp 20) 21 292 a_a (k * 1) 0 ([.slice a5 y3.length c6]) (.slice a5 y3.length c6) (fun w hw => hel8.fr hw.fr) (UU 1 [(22, I lf)] (OPC (CX 23 (fun w hw => szPinS_c w y3 a5 c6 (hi7.fr hw.fr) lf z5K1 z5K1) ?_))))))
  rintro ⟨m9, hm10⟩
  try dsimp only at hm10
  refine UU 1 [(1, I m9)] (NR (UU 2 [(25, B (decide (m9 < 0)))] (NI (decide (m9 < 0)) (dT fun h11 bh11 => ?_) (dF fun h11 bh11 => ?_))))
  · refine XG (UU 1 [(4, I (-1))] (XF rfl (vi (-1)) ⟨-1, z3K1⟩ [] rfl))
  refine SKIP (OUTN (NEXT (RG (UU 2 [(17, I (wr ((k : Int) + 1)))] (CS 17 (vi (wr ((k : Int) + 1))) (vi ((k + 1 : Nat) : Int)) VC (UU 1 [(5, I ((k + 1 : Nat) : Int))] (ENDOPS (BK (k + 1, ys4, m9) [0, 1, 5] 0 [] ⟨hl_y3, hd_y3, LD, (by rw [flat_take hx_y3, List.length_append]; dsimp only; omega)⟩ (by simp)))))))))
 obtain rfl := drop_nil hk LO
 refine EXIT (PASS trivial (PASS trivial (OUT (NEXT (XG (UU 2 [(4, I lf)] (XF rfl (vi lf) ⟨lf, z3K1⟩ [] rfl)))))))
theorem szWheel_c (W : World) (a : Wheel) (a8a : Option Addr) (a8c : Nat) (ha8 : Rd (sl 301 pinL) W a8a a.spoke) (left : Int) (hl : left ≤ 1048576) (hl0 : 0 ≤ left) : Spec Tryz.prog W [] 269 #[.agg #[.slice a8a a.spoke.length a8c], vi left] (⟨{x : Int // 0 ≤ x → x + ((a).spoke.length : Int) + ((a).spoke.flatten.length : Int) ≤ left}, fun q => vi q.1, fun q => []⟩) := by
 refine ENTER0 (N := 12) (vs := [.agg #[.slice a8a a.spoke.length a8c], vi left]) Tryz.func269 rfl rfl (NL rfl) ?_
 have ha8len := ha8.len
 refine XG (UL 2 [(2, .p 0 0)] [(174, [.slice a8a a.spoke.length a8c])] (NR (UU 3 [(6, .v (.slice a8a a.spoke.length a8c)), (7, I left)] (OPC (CX 8 (fun w hw => szPinSS_c w a.spoke a8a a8c (ha8.fr hw.fr) left z5K1 z5K1) ?_)))))
 rintro ⟨m1, hm2⟩
 try dsimp only at hm2
 refine UU 1 [(1, I m1)] (XN (SEQ (XG (UU 2 [(10, B (decide (m1 < 0)))] (NI (decide (m1 < 0)) (dT fun h3 bh3 => ?_) (dF fun h3 bh3 => ?_))))))
 · refine XG (UU 1 [(4, I (-1))] (XF rfl (vi (-1)) ⟨-1, z4K1⟩ [] rfl))
 refine XK (XG (UU 2 [(4, I m1)] (XF rfl (vi m1) ⟨m1, z4K1⟩ [] rfl)))
theorem szCabin_c (W : World) (a : Cabin) (a6a : Option Addr) (a6c : Nat) (ha6 : Rd entryL W a6a a.row) (a7a : Option Addr) (a7c : Nat) (ha7 : Rd (sl 301 pinL) W a7a a.wheel.spoke) (left : Int) (hl : left ≤ 1048576) (hl0 : 0 ≤ left) : Spec Tryz.prog W [] 174 #[.agg (caC a a6a a6c a7a a7c).toArray, vi left] (⟨{x : Int // 0 ≤ x → x + ((a).row.length : Int) + ((a).wheel.spoke.length : Int) + ((a).wheel.spoke.flatten.length : Int) ≤ left}, fun q => vi q.1, fun q => []⟩) := by
 refine ENTER0 (N := 18) (vs := [.agg (caC a a6a a6c a7a a7c).toArray, vi left]) Tryz.func174 rfl rfl (NL rfl) ?_
 have ha6len := ha6.len
 have ha7len := ha7.len
 refine XG (UL 2 [(2, .p 0 0)] [(176, (caC a a6a a6c a7a a7c))] (NR (UU 3 [(6, .v (.slice a6a a.row.length a6c)), (7, I left)] (OPC (CX 8 (fun w hw => szEntryS_c w a.row a6a a6c (ha6.fr hw.fr) left z5K1 z5K1) ?_)))))
 rintro ⟨m1, hm2⟩
 try dsimp only at hm2
 refine UU 1 [(1, I m1)] (XN (SEQ (XG (UU 2 [(10, B (decide (m1 < 0)))] (NI (decide (m1 < 0)) (dT fun h3 bh3 => ?_) (dF fun h3 bh3 => ?_))))))
 · refine XG (UU 1 [(4, I (-1))] (XF rfl (vi (-1)) ⟨-1, z4K1⟩ [] rfl))
 refine XK (XG (UU 3 [(12, .v (.agg #[.slice a7a a.wheel.spoke.length a7c])), (13, I m1)] (OPC (CX 14 (fun w hw => szWheel_c w a.wheel a7a a7c (ha7.fr hw.fr) m1 z5K1 z5K1) ?_))))
 rintro ⟨m4, hm5⟩
 try dsimp only at hm5
 refine UU 1 [(1, I m4)] (XN (SEQ (XG (UU 2 [(16, B (decide (m4 < 0)))] (NI (decide (m4 < 0)) (dT fun h6 bh6 => ?_) (dF fun h6 bh6 => ?_))))))
 · refine XG (UU 1 [(4, I (-1))] (XF rfl (vi (-1)) ⟨-1, z4K1⟩ [] rfl))
 refine XK (XG (UU 2 [(4, I m4)] (XF rfl (vi m4) ⟨m4, z4K1⟩ [] rfl)))
theorem szCabinS_c (W : World) (a : List Cabin) (a_a : Option Addr) (a_c : Nat) (ha : Rd (cabinLx 271 292 301) W a_a a) (left : Int) (hl : left ≤ 1048576) (hl0 : 0 ≤ left) : Spec Tryz.prog W [] 78 #[.slice a_a a.length a_c, vi left] (⟨{x : Int // 0 ≤ x → x + ((a).length : Int) ≤ left ∧ ∀ c ∈ a, CabinSz c}, fun q => vi q.1, fun q => []⟩) := by
 refine ENTER0 (N := 27) (vs := [.slice a_a a.length a_c, vi left]) Tryz.func78 rfl rfl (NL rfl) ?_
 have hal9 := ha.len; have hwl : wr (left - (a.length : Int)) = left - (a.length : Int) := wr_of LO LO
 have ha_len := ha.len
 refine XG (UU 1 [] (NR (UU 5 [(1, I (wr (left - (a.length : Int))))] (XN (SEQ (XG (UU 2 [(11, B (decide ((wr (left - (a.length : Int))) < 0)))] (NI (decide ((wr (left - (a.length : Int))) < 0)) (dT fun h1 bh1 => ?_) (dF fun h1 bh1 => ?_)))))))))
 · refine XG (UU 1 [(4, I (-1))] (XF rfl (vi (-1)) ⟨-1, z2K1⟩ [] rfl))
 refine XK (SEQ (XG (UU 1 [(5, I 0)] (XN (BLOCK (LOOP (ι := Nat × (List Cabin) × Int) (fun j => [(0, .v (.slice a_a a.length a_c)), (1, I j.2.2), (5, I (j.1 : Int))]) (fun j => []) (fun j => []) (fun j => j.1 + j.2.1.length = a.length ∧ a.drop j.1 = j.2.1 ∧ 0 ≤ j.2.2 ∧ (j.2.2 + (a.length : Int) ≤ left ∧ ∀ c ∈ a.take j.1, CabinSz c)) (fun j => j.2.1.length) (0, a, wr (left - (a.length : Int))) [0, 1, 5] ⟨by simp, rfl, by dsimp only; omega, ⟨by dsimp only; omega, by simp⟩⟩ KR rfl rfl ?_))))))
 rintro ⟨k, ys, lf⟩ ⟨hk, hd, hv0, hv1⟩
 try dsimp only at hk hd hv0 hv1
 refine SEQ (XG (UU 4 [(15, B (decide ((k : Int) < (a.length : Int))))] (NI (decide ((k : Int) < (a.length : Int))) (dT fun h2 bh2 => ?_) (dF fun h2 bh2 => ?_))))
 ·
  obtain ⟨y3, ys4, rfl, hx_y3, hd_y3, hl_y3⟩ := drop_cons hd hk LO
  refine XK (SEQ (BLOCK (XG (UU 2 [(18, .v (.slice a_a a.length a_c)), (19, I (k : Int))] ?_))))
  obtain ⟨a5, c6, a8, c9, hel11, hi7, hi10, hi7_cap, hi10_cap⟩ := cabin_view ha hx_y3
  have hi7_len := hi7.len
  have hi10_len := hi10.len
  refine OPC (IX 26 (.tmp 18) (.tmp 19) 20 0 a_a a.length a_c .i64 (k : Int) 176 7 (Rd.some ha LO) LO LO (OPC (LE 176 (.tmp 20) 21 176 a_a (k * 7) 0 ((caC y3 a5 c6 a8 c9)) (.agg (caC y3 a5 c6 a8 c9).toArray) (fun w hw => hel11.fr hw.fr) (UU 1 [(22, I lf)] (OPC (CX 23 (fun w hw => szCabin_c w y3 a5 c6 (hi7.fr hw.fr) a8 c9 (hi10.fr hw.fr) lf z5K1 z5K1) ?_))))))
  rintro ⟨m12, hm13⟩
  try dsimp only at hm13
  refine UU 1 [(1, I m12)] (NR (UU 2 [(25, B (decide (m12 < 0)))] (NI (decide (m12 < 0)) (dT fun h14 bh14 => ?_) (dF fun h14 bh14 => ?_))))
  · refine XG (UU 1 [(4, I (-1))] (XF rfl (vi (-1)) ⟨-1, z2K1⟩ [] rfl))
  refine SKIP (OUTN (NEXT (RG (UU 2 [(17, I (wr ((k : Int) + 1)))] (CS 17 (vi (wr ((k : Int) + 1))) (vi ((k + 1 : Nat) : Int)) VC (UU 1 [(5, I ((k + 1 : Nat) : Int))] (ENDOPS (BK (k + 1, ys4, m12) [0, 1, 5] 0 [] ⟨hl_y3, hd_y3, LD, ⟨by dsimp only; omega, fun c hc => by rw [List.take_add_one, hx_y3] at hc; rcases List.mem_append.1 hc with h | h; exact hv1.2 c h; (simp at h; subst h; exact ⟨by omega, by omega, by omega⟩)⟩⟩ (by simp)))))))))
 obtain rfl := drop_nil hk LO
 refine EXIT (PASS trivial (PASS trivial (OUT (NEXT (XG (UU 2 [(4, I lf)] (XF rfl (vi lf) ⟨lf, z2K1⟩ [] rfl)))))))
theorem szHouse_c (W : World) (a : House) (a1a : Option Addr) (a1c : Nat) (ha1 : Rd intL W a1a a.rules.seats) (a2a : Option Addr) (a2c : Nat) (ha2 : Rd partyL W a2a a.parties) (a3a : Option Addr) (a3c : Nat) (ha3 : Rd (cabinLx 271 292 301) W a3a a.cabins) (a4a : Option Addr) (a4c : Nat) (ha4 : Rd intL W a4a a.todo) (a5a : Option Addr) (a5c : Nat) (ha5 : Rd intL W a5a a.jobs) (left : Int) (hl : left ≤ 1048576) (hl0 : 0 ≤ left) : Spec Tryz.prog W [] 12 #[.agg (hC a a1a a1c a2a a2c a3a a3c a4a a4c a5a a5c).toArray, vi left] (⟨{x : Int // 0 ≤ x → x ≤ left ∧ HouseSz a}, fun q => vi q.1, fun q => []⟩) := by
 refine ENTER0 (N := 36) (vs := [.agg (hC a a1a a1c a2a a2c a3a a3c a4a a4c a5a a5c).toArray, vi left]) Tryz.func12 rfl rfl (NL rfl) ?_
 have ha1len := ha1.len
 have ha2len := ha2.len
 have ha3len := ha3.len
 have ha4len := ha4.len
 have ha5len := ha5.len
 refine XG (UL 2 [(2, .p 0 0)] [(28, (hC a a1a a1c a2a a2c a3a a3c a4a a4c a5a a5c))] (NR (UU 3 [(6, .v (.agg (rC a.rules a1a a1c).toArray)), (7, I left)] (OPC (CX 8 (fun w hw => szRules_c w a.rules a1a a1c (ha1.fr hw.fr) left z5K1 z5K1) ?_)))))
 rintro ⟨m1, hm2⟩
 try dsimp only at hm2
 refine UU 1 [(1, I m1)] (XN (SEQ (XG (UU 2 [(10, B (decide (m1 < 0)))] (NI (decide (m1 < 0)) (dT fun h3 bh3 => ?_) (dF fun h3 bh3 => ?_))))))
 ·
  refine XG (UU 1 [(4, I (-1))] (XF rfl (vi (-1)) ⟨-1, z1K1⟩ [] ?_ (hp := ?_)))
  · rfl
  rfl
 refine XK (XG (UU 3 [(12, .v (.slice a2a a.parties.length a2c)), (13, I m1)] (OPC (CX 14 (fun w hw => szPartyS_c w a.parties a2a a2c (ha2.fr hw.fr) m1 z5K1 z5K1) ?_))))
 rintro ⟨m4, hm5⟩
 try dsimp only at hm5
 refine UU 1 [(1, I m4)] (XN (SEQ (XG (UU 2 [(16, B (decide (m4 < 0)))] (NI (decide (m4 < 0)) (dT fun h6 bh6 => ?_) (dF fun h6 bh6 => ?_))))))
 ·
  refine XG (UU 1 [(4, I (-1))] (XF rfl (vi (-1)) ⟨-1, z1K1⟩ [] ?_ (hp := ?_)))
  · rfl
  rfl
 refine XK (XG (UU 3 [(18, .v (.slice a3a a.cabins.length a3c)), (19, I m4)] (OPC (CX 20 (fun w hw => szCabinS_c w a.cabins a3a a3c (ha3.fr hw.fr) m4 z5K1 z5K1) ?_))))
 rintro ⟨m7, hm8⟩
 try dsimp only at hm8
 refine UU 1 [(1, I m7)] (XN (SEQ (XG (UU 2 [(22, B (decide (m7 < 0)))] (NI (decide (m7 < 0)) (dT fun h9 bh9 => ?_) (dF fun h9 bh9 => ?_))))))
 ·
  refine XG (UU 1 [(4, I (-1))] (XF rfl (vi (-1)) ⟨-1, z1K1⟩ [] ?_ (hp := ?_)))
  · rfl
  rfl
 refine XK (XG (UU 3 [(24, .v (.slice a4a a.todo.length a4c)), (25, I m7)] (OPC (CX 26 (fun w hw => szIntS_c w a.todo a4a a4c (ha4.fr hw.fr) m7 z5K1 z5K1) ?_))))
 rintro ⟨m10, hm11⟩
 try dsimp only at hm11
 refine UU 1 [(1, I m10)] (XN (SEQ (XG (UU 2 [(28, B (decide (m10 < 0)))] (NI (decide (m10 < 0)) (dT fun h12 bh12 => ?_) (dF fun h12 bh12 => ?_))))))
 ·
  refine XG (UU 1 [(4, I (-1))] (XF rfl (vi (-1)) ⟨-1, z1K1⟩ [] ?_ (hp := ?_)))
  · rfl
  rfl
 refine XK (XG (UU 3 [(30, .v (.slice a5a a.jobs.length a5c)), (31, I m10)] (OPC (CX 32 (fun w hw => szIntS_c w a.jobs a5a a5c (ha5.fr hw.fr) m10 z5K1 z5K1) ?_))))
 rintro ⟨m13, hm14⟩
 try dsimp only at hm14
 refine UU 1 [(1, I m13)] (XN (SEQ (XG (UU 2 [(34, B (decide (m13 < 0)))] (NI (decide (m13 < 0)) (dT fun h15 bh15 => ?_) (dF fun h15 bh15 => ?_))))))
 ·
  refine XG (UU 1 [(4, I (-1))] (XF rfl (vi (-1)) ⟨-1, z1K1⟩ [] ?_ (hp := ?_)))
  · rfl
  rfl
 refine XK (XG (UU 2 [(4, I m13)] (XF rfl (vi m13) ⟨m13, z1K1⟩ [] ?_ (hp := ?_))))
 · rfl
 rfl
theorem toIntS_c (W : World) (a : List Int) (a_a : Option Addr) (a_c : Nat) (ha : Rd intL W a_a a) (hb : a.length ≤ 1048576) : Spec Tryz.prog W [] 86 #[.slice a_a a.length a_c] (⟨HH, fun p => .slice p.1 a.length p.2, fun p => [slA 3 intL (.slice p.1 a.length p.2) a]⟩) := by
 refine ENTER0 (N := 22) (vs := [.slice a_a a.length a_c]) Tryz.func86 rfl rfl (NL rfl) ?_
 have ha_len := ha.len
 refine XG (UU 1 [] (NR (UU 2 [(6, I (a.length : Int))] (OPC (MAKE 22 (.tmp 6) (.tmp 6) 7 22 KR (NL rfl) a.length KR KR 3 KR (fun z => [.int .i64 z]) (fun z => ⟨rfl, by simp [isCell]⟩) 0 (vi 0) 8 rfl KR (by decide) LO LF (fun a1 ha2 => (UU 1 [(3, .v (.slice a1 a.length a.length))] (XN (SEQ (XG (UU 1 [(4, I 0)] (XN (BLOCK (LOOP (ι := Nat × (List Int) × (List Int)) (fun j => [(0, .v (.slice a_a a.length a_c)), (3, .v (.slice a1 a.length a.length)), (4, I (j.1 : Int))]) (fun j => []) (fun j => [slA 3 intL (.slice a1 a.length a.length) j.2.2]) (fun j => j.1 + j.2.1.length = a.length ∧ a.drop j.1 = j.2.1 ∧ j.2.2 = a.take j.1 ++ List.replicate j.2.1.length 0) (fun j => j.2.1.length) (0, a, List.replicate a.length 0) [0, 3, 4] ⟨by simp, rfl, by simp⟩ KR rfl rfl ?_))))))))))))))
 rintro ⟨k, ys, out⟩ ⟨hk, hd, hv0⟩
 try dsimp only at hk hd hv0
 refine SEQ (XG (UU 4 [(11, B (decide ((k : Int) < (a.length : Int))))] (NI (decide ((k : Int) < (a.length : Int))) (dT fun h3 bh3 => ?_) (dF fun h3 bh3 => ?_))))
 ·
  obtain ⟨y4, ys5, rfl, hx_y4, hd_y4, hl_y4⟩ := drop_cons hd hk LO
  refine XK (SEQ (BLOCK (RG (UU 4 [(14, .v (.slice a1 a.length a.length)), (15, I (k : Int)), (16, .v (.slice a_a a.length a_c)), (17, I (k : Int))] (OPC (IX 22 (.tmp 16) (.tmp 17) 18 0 a_a a.length a_c .i64 (k : Int) 3 1 (Rd.some ha LO) LO LO (OPC (LE 3 (.tmp 18) 19 3 a_a (k * 1) 0 ([vi y4]) (vi y4) (fun w hw => (ha.fr hw.fr).flat hx_y4) (FACT (a.length = out.length) (fun w hw => (SlO.lenE (hw.own 0 rfl)).1) (fun hln6 => ?_))))))))))
  obtain ⟨x7, hx8⟩ : ∃ y, out[k]? = some y := ⟨_, List.getElem?_eq_getElem LO⟩
  refine OPC (IX 22 (.tmp 14) (.tmp 15) 20 0 a1 a.length a.length .i64 (k : Int) 3 1 ha2 LO LO (OPC (STOREF 3 (.tmp 20) (.tmp 19) 0 KR 0 _ 3 a1 a.length a.length k 0 out rfl x7 y4 hx8 (vi y4) KR KR KR (ENDOPS (OUTN (NEXT (RG (UU 2 [(13, I (wr ((k : Int) + 1)))] (CS 13 (vi (wr ((k : Int) + 1))) (vi ((k + 1 : Nat) : Int)) VC (UU 1 [(4, I ((k + 1 : Nat) : Int))] (ENDOPS (BK (k + 1, ys5, out.set k y4) [0, 3, 4] 0 [0] ⟨hl_y4, hd_y4, by rw [hv0]; exact set_next hk hx_y4⟩ (by simp)))))))))))))
 obtain rfl := drop_nil hk LO
 refine EXIT (PASS trivial (PASS trivial (OUT (NEXT (XG (UU 2 [(2, .v (.slice a1 a.length a.length))] (XN (RET ?_))))))))
 have efin : a = out := by rw [hv0]; simp [show k = a.length by simpa using hk]
 refine FIN (.slice a1 a.length a.length) KR (a1, a.length) ?_ [0] ?_
 · (rw [efin] <;> rfl)
 (rw [efin] <;> rfl)
theorem toRules_c (W : World) (a : Rules) (a9a : Option Addr) (a9c : Nat) (ha9 : Rd intL W a9a a.seats) (hb : a.seats.length ≤ 1048576) : Spec Tryz.prog W [] 83 #[.agg (rC a a9a a9c).toArray] (⟨HH, fun p => .agg (rC a p.1 p.2).toArray, fun p => [slA 3 intL (.slice p.1 a.seats.length p.2) a.seats]⟩) := by
 refine ENTER0 (N := 33) (vs := [.agg (rC a a9a a9c).toArray]) Tryz.func83 rfl rfl (NL rfl) ?_
 have ha9len := ha9.len
 refine XG (UL 2 [(1, .p 0 0), (2, .p 1 0)] [(24, (rC a a9a a9c)), (34, [.slice none 0 0, vi 0, vi 0, vi 0, vi 0, vi 0, vi 0, vi 0, vi 0])] (NR (UL 1 [(3, .p 2 0)] [(24, (rC a a9a a9c)), (34, [.slice none 0 0, vi 0, vi 0, vi 0, vi 0, vi 0, vi 0, vi 0, vi 0]), (34, [.slice none 0 0, vi 0, vi 0, vi 0, vi 0, vi 0, vi 0, vi 0, vi 0])] (NR (UU 2 [(5, .v (.slice a9a a.seats.length a9c))] (OPC (CX 6 (fun w hw => toIntS_c w a.seats a9a a9c (ha9.fr hw.fr) LA) ?_)))))))
 rintro ⟨a1, c2⟩
 refine UL 2 [] [(24, (rC a a9a a9c)), (34, [.slice none 0 0, vi 0, vi 0, vi 0, vi 0, vi 0, vi 0, vi 0, vi 0]), (34, [.slice a1 a.seats.length c2, vi 0, vi 0, vi 0, vi 0, vi 0, vi 0, vi 0, vi 0])] (NR (UL 4 [] [(24, (rC a a9a a9c)), (34, [.slice none 0 0, vi 0, vi 0, vi 0, vi 0, vi 0, vi 0, vi 0, vi 0]), (34, [.slice a1 a.seats.length c2, vi a.tiers, vi 0, vi 0, vi 0, vi 0, vi 0, vi 0, vi 0])] (NR (UL 4 [] [(24, (rC a a9a a9c)), (34, [.slice none 0 0, vi 0, vi 0, vi 0, vi 0, vi 0, vi 0, vi 0, vi 0]), (34, [.slice a1 a.seats.length c2, vi a.tiers, vi a.room, vi 0, vi 0, vi 0, vi 0, vi 0, vi 0])] (NR (UL 4 [] [(24, (rC a a9a a9c)), (34, [.slice none 0 0, vi 0, vi 0, vi 0, vi 0, vi 0, vi 0, vi 0, vi 0]), (34, [.slice a1 a.seats.length c2, vi a.tiers, vi a.room, vi a.size, vi 0, vi 0, vi 0, vi 0, vi 0])] (NR (UL 4 [] [(24, (rC a a9a a9c)), (34, [.slice none 0 0, vi 0, vi 0, vi 0, vi 0, vi 0, vi 0, vi 0, vi 0]), (34, [.slice a1 a.seats.length c2, vi a.tiers, vi a.room, vi a.size, vi a.period, vi 0, vi 0, vi 0, vi 0])] (NR ?_)))))))))
 refine UL 4 [] [(24, (rC a a9a a9c)), (34, [.slice none 0 0, vi 0, vi 0, vi 0, vi 0, vi 0, vi 0, vi 0, vi 0]), (34, [.slice a1 a.seats.length c2, vi a.tiers, vi a.room, vi a.size, vi a.period, vi a.window, vi 0, vi 0, vi 0])] (NR (UL 4 [] [(24, (rC a a9a a9c)), (34, [.slice none 0 0, vi 0, vi 0, vi 0, vi 0, vi 0, vi 0, vi 0, vi 0]), (34, [.slice a1 a.seats.length c2, vi a.tiers, vi a.room, vi a.size, vi a.period, vi a.window, vi a.rest, vi 0, vi 0])] (NR (UL 4 [] [(24, (rC a a9a a9c)), (34, [.slice none 0 0, vi 0, vi 0, vi 0, vi 0, vi 0, vi 0, vi 0, vi 0]), (34, [.slice a1 a.seats.length c2, vi a.tiers, vi a.room, vi a.size, vi a.period, vi a.window, vi a.rest, vi a.tries, vi 0])] (NR (UL 4 [] [(24, (rC a a9a a9c)), (34, [.slice none 0 0, vi 0, vi 0, vi 0, vi 0, vi 0, vi 0, vi 0, vi 0]), (34, (rC a a1 c2))] (NR (UL 2 [] [(24, (rC a a9a a9c)), (34, (rC a a1 c2)), (34, (rC a a1 c2))] (XN (RET ?_))))))))))
 refine FIN (.agg (rC a a1 c2).toArray) KR (a1, c2) ?_ [0] ?_
 · rfl
 rfl
theorem toParty_c (W : World) (a : Party) : Spec Tryz.prog W [] 183 #[.agg (paC a).toArray] (RV (.agg (paC a).toArray)) := by
 refine ENTER0 (N := 35) (vs := [.agg (paC a).toArray]) Tryz.func183 rfl rfl (NL rfl) ?_
 refine XG (UL 2 [(1, .p 0 0), (2, .p 1 0)] [(180, partyE a), (91, paZ)] (NR (UL 1 [(3, .p 2 0)] [(180, partyE a), (91, paZ), (91, paZ)] (NR (UL 4 [] [(180, partyE a), (91, paZ), (91, [vi a.id, vi 0, vi 0, vi 0, vi 0, vi 0, vi 0, vi 0, vi 0, vi 0])] (NR (UL 4 [] [(180, partyE a), (91, paZ), (91, [vi a.id, vi a.cabin, vi 0, vi 0, vi 0, vi 0, vi 0, vi 0, vi 0, vi 0])] (NR (UL 4 [] [(180, partyE a), (91, paZ), (91, [vi a.id, vi a.cabin, vi a.from', vi 0, vi 0, vi 0, vi 0, vi 0, vi 0, vi 0])] (NR (UL 4 [] [(180, partyE a), (91, paZ), (91, [vi a.id, vi a.cabin, vi a.from', vi a.size, vi 0, vi 0, vi 0, vi 0, vi 0, vi 0])] (NR (UL 4 [] [(180, partyE a), (91, paZ), (91, [vi a.id, vi a.cabin, vi a.from', vi a.size, vi a.tier, vi 0, vi 0, vi 0, vi 0, vi 0])] (NR (UL 4 [] [(180, partyE a), (91, paZ), (91, [vi a.id, vi a.cabin, vi a.from', vi a.size, vi a.tier, vi a.since, vi 0, vi 0, vi 0, vi 0])] (NR ?_))))))))))))))))
 refine UL 4 [] [(180, partyE a), (91, paZ), (91, [vi a.id, vi a.cabin, vi a.from', vi a.size, vi a.tier, vi a.since, vi a.turn, vi 0, vi 0, vi 0])] (NR (UL 4 [] [(180, partyE a), (91, paZ), (91, [vi a.id, vi a.cabin, vi a.from', vi a.size, vi a.tier, vi a.since, vi a.turn, vi a.state, vi 0, vi 0])] (NR (UL 4 [] [(180, partyE a), (91, paZ), (91, [vi a.id, vi a.cabin, vi a.from', vi a.size, vi a.tier, vi a.since, vi a.turn, vi a.state, vi a.until', vi 0])] (NR (UL 4 [] [(180, partyE a), (91, paZ), (91, partyE a)] (NR (UL 2 [] [(180, partyE a), (91, partyE a), (91, partyE a)] (XF rfl (.agg (paC a).toArray) () [] rfl)))))))))
theorem toEntry_c (W : World) (a : Entry) : Spec Tryz.prog W [] 347 #[.agg #[vi a.level, vi a.turn, vi a.id, vi a.size]] (RV (.agg #[vi a.level, vi a.turn, vi a.id, vi a.size])) := by
 refine ENTER0 (N := 17) (vs := [.agg #[vi a.level, vi a.turn, vi a.id, vi a.size]]) Tryz.func347 rfl rfl (NL rfl) ?_
 refine XG (UL 2 [(1, .p 0 0), (2, .p 1 0)] [(271, entryE a), (159, [vi 0, vi 0, vi 0, vi 0])] (NR (UL 1 [(3, .p 2 0)] [(271, entryE a), (159, [vi 0, vi 0, vi 0, vi 0]), (159, [vi 0, vi 0, vi 0, vi 0])] (NR (UL 4 [] [(271, entryE a), (159, [vi 0, vi 0, vi 0, vi 0]), (159, [vi a.level, vi 0, vi 0, vi 0])] (NR (UL 4 [] [(271, entryE a), (159, [vi 0, vi 0, vi 0, vi 0]), (159, [vi a.level, vi a.turn, vi 0, vi 0])] (NR (UL 4 [] [(271, entryE a), (159, [vi 0, vi 0, vi 0, vi 0]), (159, [vi a.level, vi a.turn, vi a.id, vi 0])] (NR (UL 4 [] [(271, entryE a), (159, [vi 0, vi 0, vi 0, vi 0]), (159, entryE a)] (NR (UL 2 [] [(271, entryE a), (159, entryE a), (159, entryE a)] (XF rfl (.agg #[vi a.level, vi a.turn, vi a.id, vi a.size]) () [] rfl))))))))))))))
theorem toPin_c (W : World) (a : Pin) : Spec Tryz.prog W [] 389 #[.agg #[vi a.at', vi a.id]] (RV (.agg #[vi a.at', vi a.id])) := by
 refine ENTER0 (N := 11) (vs := [.agg #[vi a.at', vi a.id]]) Tryz.func389 rfl rfl (NL rfl) ?_
 refine XG (UL 2 [(1, .p 0 0), (2, .p 1 0)] [(301, pinE a), (166, [vi 0, vi 0])] (NR (UL 1 [(3, .p 2 0)] [(301, pinE a), (166, [vi 0, vi 0]), (166, [vi 0, vi 0])] (NR (UL 4 [] [(301, pinE a), (166, [vi 0, vi 0]), (166, [vi a.at', vi 0])] (NR (UL 4 [] [(301, pinE a), (166, [vi 0, vi 0]), (166, pinE a)] (NR (UL 2 [] [(301, pinE a), (166, pinE a), (166, pinE a)] (XF rfl (.agg #[vi a.at', vi a.id]) () [] rfl))))))))))
theorem toLedger_c (W : World) (a : Ledger) : Spec Tryz.prog W [] 277 #[.agg (leC a).toArray] (RV (.agg (leC a).toArray)) := by
 refine ENTER0 (N := 20) (vs := [.agg (leC a).toArray]) Tryz.func277 rfl rfl (NL rfl) ?_
 refine XG (UL 2 [(1, .p 0 0), (2, .p 1 0)] [(170, ledgerE a), (64, [vi 0, vi 0, vi 0, vi 0, vi 0])] (NR (UL 1 [(3, .p 2 0)] [(170, ledgerE a), (64, [vi 0, vi 0, vi 0, vi 0, vi 0]), (64, [vi 0, vi 0, vi 0, vi 0, vi 0])] (NR (UL 4 [] [(170, ledgerE a), (64, [vi 0, vi 0, vi 0, vi 0, vi 0]), (64, [vi a.total, vi 0, vi 0, vi 0, vi 0])] (NR (UL 4 [] [(170, ledgerE a), (64, [vi 0, vi 0, vi 0, vi 0, vi 0]), (64, [vi a.total, vi a.free, vi 0, vi 0, vi 0])] (NR (UL 4 [] [(170, ledgerE a), (64, [vi 0, vi 0, vi 0, vi 0, vi 0]), (64, [vi a.total, vi a.free, vi a.held, vi 0, vi 0])] (NR (UL 4 [] [(170, ledgerE a), (64, [vi 0, vi 0, vi 0, vi 0, vi 0]), (64, [vi a.total, vi a.free, vi a.held, vi a.sold, vi 0])] (NR (UL 4 [] [(170, ledgerE a), (64, [vi 0, vi 0, vi 0, vi 0, vi 0]), (64, ledgerE a)] (NR (UL 2 [] [(170, ledgerE a), (64, ledgerE a), (64, ledgerE a)] (XF rfl (.agg (leC a).toArray) () [] rfl))))))))))))))))
theorem toPartyS_c (W : World) (a : List Party) (a_a : Option Addr) (a_c : Nat) (ha : Rd partyL W a_a a) (hb : a.length ≤ 1048576) : Spec Tryz.prog W [] 84 #[.slice a_a a.length a_c] (⟨HH, fun p => .slice p.1 a.length p.2, fun p => [slA 91 partyL (.slice p.1 a.length p.2) a]⟩) := by
 refine ENTER0 (N := 23) (vs := [.slice a_a a.length a_c]) Tryz.func84 rfl rfl (NL rfl) ?_
 have ha_len := ha.len
 refine XG (UU 1 [] (NR (UU 2 [(6, I (a.length : Int))] (OPC (MAKE 35 (.tmp 6) (.tmp 6) 7 35 KR (NL rfl) a.length KR KR 91 KR partyE partyH (⟨0, 0, 0, 0, 0, 0, 0, 0, 0, 0⟩ : Party) (.agg paZ.toArray) 80 rfl KR (by decide) LO LF (fun a1 ha2 => (UU 1 [(3, .v (.slice a1 a.length a.length))] (XN (SEQ (XG (UU 1 [(4, I 0)] (XN (BLOCK (LOOP (ι := Nat × (List Party) × (List Party)) (fun j => [(0, .v (.slice a_a a.length a_c)), (3, .v (.slice a1 a.length a.length)), (4, I (j.1 : Int))]) (fun j => []) (fun j => [slA 91 partyL (.slice a1 a.length a.length) j.2.2]) (fun j => j.1 + j.2.1.length = a.length ∧ a.drop j.1 = j.2.1 ∧ j.2.2 = a.take j.1 ++ List.replicate j.2.1.length (⟨0, 0, 0, 0, 0, 0, 0, 0, 0, 0⟩ : Party)) (fun j => j.2.1.length) (0, a, List.replicate a.length (⟨0, 0, 0, 0, 0, 0, 0, 0, 0, 0⟩ : Party)) [0, 3, 4] ⟨by simp, rfl, by simp⟩ KR rfl rfl ?_))))))))))))))
 rintro ⟨k, ys, out⟩ ⟨hk, hd, hv0⟩
 try dsimp only at hk hd hv0
 refine SEQ (XG (UU 4 [(11, B (decide ((k : Int) < (a.length : Int))))] (NI (decide ((k : Int) < (a.length : Int))) (dT fun h3 bh3 => ?_) (dF fun h3 bh3 => ?_))))
 ·
  obtain ⟨y4, ys5, rfl, hx_y4, hd_y4, hl_y4⟩ := drop_cons hd hk LO
  refine XK (SEQ (BLOCK (RG (UU 4 [(14, .v (.slice a1 a.length a.length)), (15, I (k : Int)), (16, .v (.slice a_a a.length a_c)), (17, I (k : Int))] (OPC (IX 25 (.tmp 16) (.tmp 17) 18 0 a_a a.length a_c .i64 (k : Int) 180 10 (Rd.some ha LO) LO LO (OPC (LE 180 (.tmp 18) 19 180 a_a (k * 10) 0 (partyE y4) (.agg (partyE y4).toArray) (fun w hw => (ha.fr hw.fr).flat hx_y4) (OPC (CX 20 (fun w hw => toParty_c w y4) ?_))))))))))
  rintro ⟨⟩
  refine FACT (a.length = out.length) (fun w hw => (SlO.lenE (hw.own 0 rfl)).1) (fun hln6 => ?_)
  obtain ⟨x7, hx8⟩ : ∃ y, out[k]? = some y := ⟨_, List.getElem?_eq_getElem LO⟩
  refine OPC (IX 35 (.tmp 14) (.tmp 15) 21 0 a1 a.length a.length .i64 (k : Int) 91 10 ha2 LO LO (OPC (STOREF 91 (.tmp 21) (.tmp 20) 0 KR 0 _ 91 a1 a.length a.length k 0 out rfl x7 y4 hx8 (.agg (paC y4).toArray) KR KR KR (ENDOPS (OUTN (NEXT (RG (UU 2 [(13, I (wr ((k : Int) + 1)))] (CS 13 (vi (wr ((k : Int) + 1))) (vi ((k + 1 : Nat) : Int)) VC (UU 1 [(4, I ((k + 1 : Nat) : Int))] (ENDOPS (BK (k + 1, ys5, out.set k y4) [0, 3, 4] 0 [0] ⟨hl_y4, hd_y4, by rw [hv0]; exact set_next hk hx_y4⟩ (by simp)))))))))))))
 obtain rfl := drop_nil hk LO
 refine EXIT (PASS trivial (PASS trivial (OUT (NEXT (XG (UU 2 [(2, .v (.slice a1 a.length a.length))] (XN (RET ?_))))))))
 have efin : a = out := by rw [hv0]; simp [show k = a.length by simpa using hk]
 refine FIN (.slice a1 a.length a.length) KR (a1, a.length) ?_ [0] ?_
 · (rw [efin] <;> rfl)
 (rw [efin] <;> rfl)
theorem toEntryS_c (W : World) (a : List Entry) (a_a : Option Addr) (a_c : Nat) (ha : Rd entryL W a_a a) (hb : a.length ≤ 1048576) : Spec Tryz.prog W [] 278 #[.slice a_a a.length a_c] (⟨HH, fun p => .slice p.1 a.length p.2, fun p => [slA 159 entryL (.slice p.1 a.length p.2) a]⟩) := by
 refine ENTER0 (N := 23) (vs := [.slice a_a a.length a_c]) Tryz.func278 rfl rfl (NL rfl) ?_
 have ha_len := ha.len
 refine XG (UU 1 [] (NR (UU 2 [(6, I (a.length : Int))] (OPC (MAKE 65 (.tmp 6) (.tmp 6) 7 65 KR (NL rfl) a.length KR KR 159 KR entryE entryH (⟨0, 0, 0, 0⟩ : Entry) (.agg #[vi 0, vi 0, vi 0, vi 0]) 32 rfl KR (by decide) LO LF (fun a1 ha2 => (UU 1 [(3, .v (.slice a1 a.length a.length))] (XN (SEQ (XG (UU 1 [(4, I 0)] (XN (BLOCK (LOOP (ι := Nat × (List Entry) × (List Entry)) (fun j => [(0, .v (.slice a_a a.length a_c)), (3, .v (.slice a1 a.length a.length)), (4, I (j.1 : Int))]) (fun j => []) (fun j => [slA 159 entryL (.slice a1 a.length a.length) j.2.2]) (fun j => j.1 + j.2.1.length = a.length ∧ a.drop j.1 = j.2.1 ∧ j.2.2 = a.take j.1 ++ List.replicate j.2.1.length (⟨0, 0, 0, 0⟩ : Entry)) (fun j => j.2.1.length) (0, a, List.replicate a.length (⟨0, 0, 0, 0⟩ : Entry)) [0, 3, 4] ⟨by simp, rfl, by simp⟩ KR rfl rfl ?_))))))))))))))
 rintro ⟨k, ys, out⟩ ⟨hk, hd, hv0⟩
 try dsimp only at hk hd hv0
 refine SEQ (XG (UU 4 [(11, B (decide ((k : Int) < (a.length : Int))))] (NI (decide ((k : Int) < (a.length : Int))) (dT fun h3 bh3 => ?_) (dF fun h3 bh3 => ?_))))
 ·
  obtain ⟨y4, ys5, rfl, hx_y4, hd_y4, hl_y4⟩ := drop_cons hd hk LO
  refine XK (SEQ (BLOCK (RG (UU 4 [(14, .v (.slice a1 a.length a.length)), (15, I (k : Int)), (16, .v (.slice a_a a.length a_c)), (17, I (k : Int))] (OPC (IX 171 (.tmp 16) (.tmp 17) 18 0 a_a a.length a_c .i64 (k : Int) 271 4 (Rd.some ha LO) LO LO (OPC (LE 271 (.tmp 18) 19 271 a_a (k * 4) 0 (entryE y4) (.agg (entryE y4).toArray) (fun w hw => (ha.fr hw.fr).flat hx_y4) (OPC (CX 20 (fun w hw => toEntry_c w y4) ?_))))))))))
  rintro ⟨⟩
  refine FACT (a.length = out.length) (fun w hw => (SlO.lenE (hw.own 0 rfl)).1) (fun hln6 => ?_)
  obtain ⟨x7, hx8⟩ : ∃ y, out[k]? = some y := ⟨_, List.getElem?_eq_getElem LO⟩
  refine OPC (IX 65 (.tmp 14) (.tmp 15) 21 0 a1 a.length a.length .i64 (k : Int) 159 4 ha2 LO LO (OPC (STOREF 159 (.tmp 21) (.tmp 20) 0 KR 0 _ 159 a1 a.length a.length k 0 out rfl x7 y4 hx8 (.agg #[vi y4.level, vi y4.turn, vi y4.id, vi y4.size]) KR KR KR (ENDOPS (OUTN (NEXT (RG (UU 2 [(13, I (wr ((k : Int) + 1)))] (CS 13 (vi (wr ((k : Int) + 1))) (vi ((k + 1 : Nat) : Int)) VC (UU 1 [(4, I ((k + 1 : Nat) : Int))] (ENDOPS (BK (k + 1, ys5, out.set k y4) [0, 3, 4] 0 [0] ⟨hl_y4, hd_y4, by rw [hv0]; exact set_next hk hx_y4⟩ (by simp)))))))))))))
 obtain rfl := drop_nil hk LO
 refine EXIT (PASS trivial (PASS trivial (OUT (NEXT (XG (UU 2 [(2, .v (.slice a1 a.length a.length))] (XN (RET ?_))))))))
 have efin : a = out := by rw [hv0]; simp [show k = a.length by simpa using hk]
 refine FIN (.slice a1 a.length a.length) KR (a1, a.length) ?_ [0] ?_
 · (rw [efin] <;> rfl)
 (rw [efin] <;> rfl)
theorem toPinS_c (W : World) (a : List Pin) (a_a : Option Addr) (a_c : Nat) (ha : Rd pinL W a_a a) (hb : a.length ≤ 1048576) : Spec Tryz.prog W [] 378 #[.slice a_a a.length a_c] (⟨HH, fun p => .slice p.1 a.length p.2, fun p => [slA 166 pinL (.slice p.1 a.length p.2) a]⟩) := by
 refine ENTER0 (N := 23) (vs := [.slice a_a a.length a_c]) Tryz.func378 rfl rfl (NL rfl) ?_
 have ha_len := ha.len
 refine XG (UU 1 [] (NR (UU 2 [(6, I (a.length : Int))] (OPC (MAKE 199 (.tmp 6) (.tmp 6) 7 199 KR (NL rfl) a.length KR KR 166 KR pinE pinH (⟨0, 0⟩ : Pin) (.agg #[vi 0, vi 0]) 16 rfl KR (by decide) LO LF (fun a1 ha2 => (UU 1 [(3, .v (.slice a1 a.length a.length))] (XN (SEQ (XG (UU 1 [(4, I 0)] (XN (BLOCK (LOOP (ι := Nat × (List Pin) × (List Pin)) (fun j => [(0, .v (.slice a_a a.length a_c)), (3, .v (.slice a1 a.length a.length)), (4, I (j.1 : Int))]) (fun j => []) (fun j => [slA 166 pinL (.slice a1 a.length a.length) j.2.2]) (fun j => j.1 + j.2.1.length = a.length ∧ a.drop j.1 = j.2.1 ∧ j.2.2 = a.take j.1 ++ List.replicate j.2.1.length (⟨0, 0⟩ : Pin)) (fun j => j.2.1.length) (0, a, List.replicate a.length (⟨0, 0⟩ : Pin)) [0, 3, 4] ⟨by simp, rfl, by simp⟩ KR rfl rfl ?_))))))))))))))
 rintro ⟨k, ys, out⟩ ⟨hk, hd, hv0⟩
 try dsimp only at hk hd hv0
 refine SEQ (XG (UU 4 [(11, B (decide ((k : Int) < (a.length : Int))))] (NI (decide ((k : Int) < (a.length : Int))) (dT fun h3 bh3 => ?_) (dF fun h3 bh3 => ?_))))
 ·
  obtain ⟨y4, ys5, rfl, hx_y4, hd_y4, hl_y4⟩ := drop_cons hd hk LO
  refine XK (SEQ (BLOCK (RG (UU 4 [(14, .v (.slice a1 a.length a.length)), (15, I (k : Int)), (16, .v (.slice a_a a.length a_c)), (17, I (k : Int))] (OPC (IX 292 (.tmp 16) (.tmp 17) 18 0 a_a a.length a_c .i64 (k : Int) 301 2 (Rd.some ha LO) LO LO (OPC (LE 301 (.tmp 18) 19 301 a_a (k * 2) 0 (pinE y4) (.agg (pinE y4).toArray) (fun w hw => (ha.fr hw.fr).flat hx_y4) (OPC (CX 20 (fun w hw => toPin_c w y4) ?_))))))))))
  rintro ⟨⟩
  refine FACT (a.length = out.length) (fun w hw => (SlO.lenE (hw.own 0 rfl)).1) (fun hln6 => ?_)
  obtain ⟨x7, hx8⟩ : ∃ y, out[k]? = some y := ⟨_, List.getElem?_eq_getElem LO⟩
  refine OPC (IX 199 (.tmp 14) (.tmp 15) 21 0 a1 a.length a.length .i64 (k : Int) 166 2 ha2 LO LO (OPC (STOREF 166 (.tmp 21) (.tmp 20) 0 KR 0 _ 166 a1 a.length a.length k 0 out rfl x7 y4 hx8 (.agg #[vi y4.at', vi y4.id]) KR KR KR (ENDOPS (OUTN (NEXT (RG (UU 2 [(13, I (wr ((k : Int) + 1)))] (CS 13 (vi (wr ((k : Int) + 1))) (vi ((k + 1 : Nat) : Int)) VC (UU 1 [(4, I ((k + 1 : Nat) : Int))] (ENDOPS (BK (k + 1, ys5, out.set k y4) [0, 3, 4] 0 [0] ⟨hl_y4, hd_y4, by rw [hv0]; exact set_next hk hx_y4⟩ (by simp)))))))))))))
 obtain rfl := drop_nil hk LO
 refine EXIT (PASS trivial (PASS trivial (OUT (NEXT (XG (UU 2 [(2, .v (.slice a1 a.length a.length))] (XN (RET ?_))))))))
 have efin : a = out := by rw [hv0]; simp [show k = a.length by simpa using hk]
 refine FIN (.slice a1 a.length a.length) KR (a1, a.length) ?_ [0] ?_
 · (rw [efin] <;> rfl)
 (rw [efin] <;> rfl)
theorem toPinSS_c (W : World) (a : List (List Pin)) (a_a : Option Addr) (a_c : Nat) (ha : Rd (sl 301 pinL) W a_a a) (hb : a.length ≤ 1048576) (hf : a.flatten.length ≤ 1048576) : Spec Tryz.prog W [] 348 #[.slice a_a a.length a_c] (⟨HH, fun p => .slice p.1 a.length p.2, fun p => [slA 199 (sl 166 pinL) (.slice p.1 a.length p.2) a]⟩) := by
 refine ENTER0 (N := 23) (vs := [.slice a_a a.length a_c]) Tryz.func348 rfl rfl (NL rfl) ?_
 have ha_len := ha.len
 refine XG (UU 1 [] (NR (UU 2 [(6, I (a.length : Int))] (OPC (MAKEN 66 (.tmp 6) (.tmp 6) 7 66 KR (NL rfl) a.length KR KR 199 KR (sl 166 pinL) 1 rfl ([] : List Pin) (.slice none 0 0) 24 (fun w => slZ _ _ w) KR (by decide) LO LF (fun a1 ha2 => (UU 1 [(3, .v (.slice a1 a.length a.length))] (XN (SEQ (XG (UU 1 [(4, I 0)] (XN (BLOCK (LOOP (ι := Nat × (List (List Pin)) × (List (List Pin))) (fun j => [(0, .v (.slice a_a a.length a_c)), (3, .v (.slice a1 a.length a.length)), (4, I (j.1 : Int))]) (fun j => []) (fun j => [slA 199 (sl 166 pinL) (.slice a1 a.length a.length) j.2.2]) (fun j => j.1 + j.2.1.length = a.length ∧ a.drop j.1 = j.2.1 ∧ j.2.2 = a.take j.1 ++ List.replicate j.2.1.length ([] : List Pin)) (fun j => j.2.1.length) (0, a, List.replicate a.length ([] : List Pin)) [0, 3, 4] ⟨by simp, rfl, by simp⟩ KR rfl rfl ?_))))))))))))))
 rintro ⟨k, ys, out⟩ ⟨hk, hd, hv0⟩
 try dsimp only at hk hd hv0
 refine SEQ (XG (UU 4 [(11, B (decide ((k : Int) < (a.length : Int))))] (NI (decide ((k : Int) < (a.length : Int))) (dT fun h3 bh3 => ?_) (dF fun h3 bh3 => ?_))))
 ·
  obtain ⟨y4, ys5, rfl, hx_y4, hd_y4, hl_y4⟩ := drop_cons hd hk LO
  have hfm := flat_mem hx_y4
  refine XK (SEQ (BLOCK (RG (UU 4 [(14, .v (.slice a1 a.length a.length)), (15, I (k : Int)), (16, .v (.slice a_a a.length a_c)), (17, I (k : Int))] ?_))))
  obtain ⟨a6, c7, hel9, hi8, hi8_cap⟩ := sl_view ha hx_y4
  have hi8_len := hi8.len
  refine OPC (IX 172 (.tmp 16) (.tmp 17) 18 0 a_a a.length a_c .i64 (k : Int) 292 1 (Rd.some ha LO) LO LO (OPC (LE 292 (.tmp 18) 19 292 a_a (k * 1) 0 ([.slice a6 y4.length c7]) (.slice a6 y4.length c7) (fun w hw => hel9.fr hw.fr) (OPC (CX 20 (fun w hw => toPinS_c w y4 a6 c7 (hi8.fr hw.fr) LA) ?_)))))
  rintro ⟨a10, c11⟩
  refine FACT (a.length = out.length) (fun w hw => (SlO.lenE (hw.own 0 rfl)).1) (fun hln12 => ?_)
  obtain ⟨x13, hx14⟩ : ∃ y, out[k]? = some y := ⟨_, List.getElem?_eq_getElem LO⟩
  refine OPC (IX 66 (.tmp 14) (.tmp 15) 21 0 a1 a.length a.length .i64 (k : Int) 199 1 ha2 LO LO (OPC (STOREN 199 (.tmp 21) (.tmp 20) 0 KR 199 (sl 166 pinL) a1 a.length a.length k out [0, 0] [slA 166 pinL (.slice a10 y4.length c11) y4] _ rfl y4 LO (.slice a10 y4.length c11) KR KR KR (nestRep (e' := 0) (x := y4)) (ENDOPS (OUTN (NEXT (RG (UU 2 [(13, I (wr ((k : Int) + 1)))] (CS 13 (vi (wr ((k : Int) + 1))) (vi ((k + 1 : Nat) : Int)) VC (UU 1 [(4, I ((k + 1 : Nat) : Int))] (ENDOPS (BK (k + 1, ys5, out.set k y4) [0, 3, 4] 0 [0] ⟨hl_y4, hd_y4, by rw [hv0]; exact set_next hk hx_y4⟩ (by simp)))))))))))))
 obtain rfl := drop_nil hk LO
 refine EXIT (PASS trivial (PASS trivial (OUT (NEXT (XG (UU 2 [(2, .v (.slice a1 a.length a.length))] (XN (RET ?_))))))))
 have efin : a = out := by rw [hv0]; simp [show k = a.length by simpa using hk]
 refine FIN (.slice a1 a.length a.length) KR (a1, a.length) ?_ [0] ?_
 · (rw [efin] <;> rfl)
 (rw [efin] <;> rfl)
theorem toWheel_c (W : World) (a : Wheel) (a8a : Option Addr) (a8c : Nat) (ha8 : Rd (sl 301 pinL) W a8a a.spoke) (hb : a.spoke.length ≤ 1048576) (hf : a.spoke.flatten.length ≤ 1048576) : Spec Tryz.prog W [] 279 #[.agg #[.slice a8a a.spoke.length a8c]] (⟨HH, fun p => .agg #[.slice p.1 a.spoke.length p.2], fun p => [slA 199 (sl 166 pinL) (.slice p.1 a.spoke.length p.2) a.spoke]⟩) := by
 refine ENTER0 (N := 9) (vs := [.agg #[.slice a8a a.spoke.length a8c]]) Tryz.func279 rfl rfl (NL rfl) ?_
 have ha8len := ha8.len
 refine XG (UL 2 [(1, .p 0 0), (2, .p 1 0)] [(174, [.slice a8a a.spoke.length a8c]), (68, [.slice none 0 0])] (NR (UL 1 [(3, .p 2 0)] [(174, [.slice a8a a.spoke.length a8c]), (68, [.slice none 0 0]), (68, [.slice none 0 0])] (NR (UU 2 [(5, .v (.slice a8a a.spoke.length a8c))] (OPC (CX 6 (fun w hw => toPinSS_c w a.spoke a8a a8c (ha8.fr hw.fr) LA LA) ?_)))))))
 rintro ⟨a1, c2⟩
 refine UL 2 [] [(174, [.slice a8a a.spoke.length a8c]), (68, [.slice none 0 0]), (68, [.slice a1 a.spoke.length c2])] (NR (UL 2 [] [(174, [.slice a8a a.spoke.length a8c]), (68, [.slice a1 a.spoke.length c2]), (68, [.slice a1 a.spoke.length c2])] (XF rfl (.agg #[.slice a1 a.spoke.length c2]) (a1, c2) [0] rfl)))
theorem toCabin_c (W : World) (a : Cabin) (a6a : Option Addr) (a6c : Nat) (ha6 : Rd entryL W a6a a.row) (a7a : Option Addr) (a7c : Nat) (ha7 : Rd (sl 301 pinL) W a7a a.wheel.spoke) (hs : CabinSz a) : Spec Tryz.prog W [] 184 #[.agg (caC a a6a a6c a7a a7c).toArray] (⟨HH × HH, fun p => .agg (caC a p.1.1 p.1.2 p.2.1 p.2.2).toArray, fun p => [slA 159 entryL (.slice p.1.1 a.row.length p.1.2) a.row, slA 199 (sl 166 pinL) (.slice p.2.1 a.wheel.spoke.length p.2.2) a.wheel.spoke]⟩) := by
 refine ENTER0 (N := 17) (vs := [.agg (caC a a6a a6c a7a a7c).toArray]) Tryz.func184 rfl rfl (NL rfl) ?_
 have hs9 : a.row.length ≤ 1048576 ∧ a.wheel.spoke.length ≤ 1048576 ∧ a.wheel.spoke.flatten.length ≤ 1048576 := hs
 have ha6len := ha6.len
 have ha7len := ha7.len
 refine XG (UL 2 [(1, .p 0 0), (2, .p 1 0)] [(176, (caC a a6a a6c a7a a7c)), (70, [vi 0, vi 0, vi 0, vi 0, vi 0, .slice none 0 0, .slice none 0 0])] (NR (UL 1 [(3, .p 2 0)] [(176, (caC a a6a a6c a7a a7c)), (70, [vi 0, vi 0, vi 0, vi 0, vi 0, .slice none 0 0, .slice none 0 0]), (70, [vi 0, vi 0, vi 0, vi 0, vi 0, .slice none 0 0, .slice none 0 0])] (NR (UU 2 [(5, .v (.agg (ledgerE a.seats).toArray))] (OPC (CX 6 (fun w hw => toLedger_c w a.seats) ?_)))))))
 rintro ⟨⟩
 refine UL 2 [] [(176, (caC a a6a a6c a7a a7c)), (70, [vi 0, vi 0, vi 0, vi 0, vi 0, .slice none 0 0, .slice none 0 0]), (70, [vi a.seats.total, vi a.seats.free, vi a.seats.held, vi a.seats.sold, vi a.seats.tied, .slice none 0 0, .slice none 0 0])] (NR (UU 2 [(9, .v (.slice a6a a.row.length a6c))] (OPC (CX 10 (fun w hw => toEntryS_c w a.row a6a a6c (ha6.fr hw.fr) LA) ?_))))
 rintro ⟨a1, c2⟩
 refine UL 2 [] [(176, (caC a a6a a6c a7a a7c)), (70, [vi 0, vi 0, vi 0, vi 0, vi 0, .slice none 0 0, .slice none 0 0]), (70, [vi a.seats.total, vi a.seats.free, vi a.seats.held, vi a.seats.sold, vi a.seats.tied, .slice a1 a.row.length c2, .slice none 0 0])] (NR (UU 2 [(13, .v (.agg #[.slice a7a a.wheel.spoke.length a7c]))] (OPC (CX 14 (fun w hw => toWheel_c w a.wheel a7a a7c (ha7.fr hw.fr) LA LA) ?_))))
 rintro ⟨a3, c4⟩
 refine UL 2 [] [(176, (caC a a6a a6c a7a a7c)), (70, [vi 0, vi 0, vi 0, vi 0, vi 0, .slice none 0 0, .slice none 0 0]), (70, (caC a a1 c2 a3 c4))] (NR (UL 2 [] [(176, (caC a a6a a6c a7a a7c)), (70, (caC a a1 c2 a3 c4)), (70, (caC a a1 c2 a3 c4))] (XF rfl (.agg (caC a a1 c2 a3 c4).toArray) ((a1, c2), (a3, c4)) [0, 0] rfl)))
theorem toCabinS_c (W : World) (a : List Cabin) (a_a : Option Addr) (a_c : Nat) (ha : Rd (cabinLx 271 292 301) W a_a a) (hb : a.length ≤ 1048576) (hs : ∀ c ∈ a, CabinSz c) : Spec Tryz.prog W [] 85 #[.slice a_a a.length a_c] (⟨HH, fun p => .slice p.1 a.length p.2, fun p => [slA 70 (cabinLx 159 199 166) (.slice p.1 a.length p.2) a]⟩) := by
 refine ENTER0 (N := 23) (vs := [.slice a_a a.length a_c]) Tryz.func85 rfl rfl (NL rfl) ?_
 have ha_len := ha.len
 refine XG (UU 1 [] (NR (UU 2 [(6, I (a.length : Int))] (OPC (MAKEN 36 (.tmp 6) (.tmp 6) 7 36 KR (NL rfl) a.length KR KR 70 KR (cabinLx 159 199 166) 7 rfl (⟨(⟨0, 0, 0, 0, 0⟩ : Ledger), [], (⟨[]⟩ : Wheel)⟩ : Cabin) (.agg #[vi 0, vi 0, vi 0, vi 0, vi 0, .slice none 0 0, .slice none 0 0]) 88 (fun w => cabinZ w) KR (by decide) LO LF (fun a1 ha2 => (UU 1 [(3, .v (.slice a1 a.length a.length))] (XN (SEQ (XG (UU 1 [(4, I 0)] (XN (BLOCK (LOOP (ι := Nat × (List Cabin) × (List Cabin)) (fun j => [(0, .v (.slice a_a a.length a_c)), (3, .v (.slice a1 a.length a.length)), (4, I (j.1 : Int))]) (fun j => []) (fun j => [slA 70 (cabinLx 159 199 166) (.slice a1 a.length a.length) j.2.2]) (fun j => j.1 + j.2.1.length = a.length ∧ a.drop j.1 = j.2.1 ∧ j.2.2 = a.take j.1 ++ List.replicate j.2.1.length (⟨⟨0, 0, 0, 0, 0⟩, [], ⟨[]⟩⟩ : Cabin)) (fun j => j.2.1.length) (0, a, List.replicate a.length (⟨(⟨0, 0, 0, 0, 0⟩ : Ledger), [], (⟨[]⟩ : Wheel)⟩ : Cabin)) [0, 3, 4] ⟨by simp, rfl, by simp⟩ KR rfl rfl ?_))))))))))))))
 rintro ⟨k, ys, out⟩ ⟨hk, hd, hv0⟩
 try dsimp only at hk hd hv0
 refine SEQ (XG (UU 4 [(11, B (decide ((k : Int) < (a.length : Int))))] (NI (decide ((k : Int) < (a.length : Int))) (dT fun h3 bh3 => ?_) (dF fun h3 bh3 => ?_))))
 ·
  obtain ⟨y4, ys5, rfl, hx_y4, hd_y4, hl_y4⟩ := drop_cons hd hk LO
  have hcz := hs _ (List.mem_of_getElem? hx_y4)
  refine XK (SEQ (BLOCK (RG (UU 4 [(14, .v (.slice a1 a.length a.length)), (15, I (k : Int)), (16, .v (.slice a_a a.length a_c)), (17, I (k : Int))] ?_))))
  obtain ⟨a6, c7, a9, c10, hel12, hi8, hi11, hi8_cap, hi11_cap⟩ := cabin_view ha hx_y4
  have hi8_len := hi8.len
  have hi11_len := hi11.len
  refine OPC (IX 26 (.tmp 16) (.tmp 17) 18 0 a_a a.length a_c .i64 (k : Int) 176 7 (Rd.some ha LO) LO LO (OPC (LE 176 (.tmp 18) 19 176 a_a (k * 7) 0 ((caC y4 a6 c7 a9 c10)) (.agg (caC y4 a6 c7 a9 c10).toArray) (fun w hw => hel12.fr hw.fr) (OPC (CX 20 (fun w hw => toCabin_c w y4 a6 c7 (hi8.fr hw.fr) a9 c10 (hi11.fr hw.fr) (by first | assumption | exact hs _ (List.mem_of_getElem? LS))) ?_)))))
  rintro ⟨⟨a13, c14⟩, ⟨a15, c16⟩⟩
  refine FACT (a.length = out.length) (fun w hw => (SlO.lenE (hw.own 0 rfl)).1) (fun hln17 => ?_)
  obtain ⟨x18, hx19⟩ : ∃ y, out[k]? = some y := ⟨_, List.getElem?_eq_getElem LO⟩
  refine OPC (IX 36 (.tmp 14) (.tmp 15) 21 0 a1 a.length a.length .i64 (k : Int) 70 7 ha2 LO LO (OPC (STOREN 70 (.tmp 21) (.tmp 20) 0 KR 70 (cabinLx 159 199 166) a1 a.length a.length k out [0, 0, 0] [slA 159 entryL (.slice a13 y4.row.length c14) y4.row, slA 199 (sl 166 pinL) (.slice a15 y4.wheel.spoke.length c16) y4.wheel.spoke] _ rfl y4 LO (.agg (caC y4 a13 c14 a15 c16).toArray) KR KR KR (cabinRep (c := y4)) (ENDOPS (OUTN (NEXT (RG (UU 2 [(13, I (wr ((k : Int) + 1)))] (CS 13 (vi (wr ((k : Int) + 1))) (vi ((k + 1 : Nat) : Int)) VC (UU 1 [(4, I ((k + 1 : Nat) : Int))] (ENDOPS (BK (k + 1, ys5, out.set k y4) [0, 3, 4] 0 [0] ⟨hl_y4, hd_y4, by rw [hv0]; exact set_next hk hx_y4⟩ (by simp)))))))))))))
 obtain rfl := drop_nil hk LO
 refine EXIT (PASS trivial (PASS trivial (OUT (NEXT (XG (UU 2 [(2, .v (.slice a1 a.length a.length))] (XN (RET ?_))))))))
 have efin : a = out := by rw [hv0]; simp [show k = a.length by simpa using hk]
 refine FIN (.slice a1 a.length a.length) KR (a1, a.length) ?_ [0] ?_
 · (rw [efin] <;> rfl)
 (rw [efin] <;> rfl)
theorem toHouse_c (W : World) (a : House) (a1a : Option Addr) (a1c : Nat) (ha1 : Rd intL W a1a a.rules.seats) (a2a : Option Addr) (a2c : Nat) (ha2 : Rd partyL W a2a a.parties) (a3a : Option Addr) (a3c : Nat) (ha3 : Rd (cabinLx 271 292 301) W a3a a.cabins) (a4a : Option Addr) (a4c : Nat) (ha4 : Rd intL W a4a a.todo) (a5a : Option Addr) (a5c : Nat) (ha5 : Rd intL W a5a a.jobs) (hs : HouseSz a) : Spec Tryz.prog W [] 15 #[.agg (hC a a1a a1c a2a a2c a3a a3c a4a a4c a5a a5c).toArray] (⟨HH × HH × HH × HH × HH, fun p => .agg (hC a p.1.1 p.1.2 p.2.1.1 p.2.1.2 p.2.2.1.1 p.2.2.1.2 p.2.2.2.1.1 p.2.2.2.1.2 p.2.2.2.2.1 p.2.2.2.2.2).toArray, fun p => [slA 3 intL (.slice p.1.1 a.rules.seats.length p.1.2) a.rules.seats, slA 91 partyL (.slice p.2.1.1 a.parties.length p.2.1.2) a.parties, slA 70 (cabinLx 159 199 166) (.slice p.2.2.1.1 a.cabins.length p.2.2.1.2) a.cabins, slA 3 intL (.slice p.2.2.2.1.1 a.todo.length p.2.2.2.1.2) a.todo, slA 3 intL (.slice p.2.2.2.2.1 a.jobs.length p.2.2.2.2.2) a.jobs]⟩) := by
 refine ENTER0 (N := 31) (vs := [.agg (hC a a1a a1c a2a a2c a3a a3c a4a a4c a5a a5c).toArray]) Tryz.func15 rfl rfl (NL rfl) ?_
 have hs9 := hs.1; have hs8 := hs.2.1; have hs7 := hs.2.2.1; have hs6 := hs.2.2.2.1; have hs5 := hs.2.2.2.2.1
 have ha1len := ha1.len
 have ha2len := ha2.len
 have ha3len := ha3.len
 have ha4len := ha4.len
 have ha5len := ha5.len
 refine XG (UL 2 [(1, .p 0 0), (2, .p 1 0)] [(28, (hC a a1a a1c a2a a2c a3a a3c a4a a4c a5a a5c)), (38, hZ)] (NR (UL 1 [(3, .p 2 0)] [(28, (hC a a1a a1c a2a a2c a3a a3c a4a a4c a5a a5c)), (38, hZ), (38, hZ)] (NR (UU 2 [(5, .v (.agg (rC a.rules a1a a1c).toArray))] ?_)))))
 refine OPC (CX 6 (fun w hw => toRules_c w a.rules a1a a1c (ha1.fr hw.fr) LQ) ?_)
 rintro ⟨a1, c2⟩
 refine UL 2 [] [(28, (hC a a1a a1c a2a a2c a3a a3c a4a a4c a5a a5c)), (38, hZ), (38, [.slice a1 a.rules.seats.length c2, vi a.rules.tiers, vi a.rules.room, vi a.rules.size, vi a.rules.period, vi a.rules.window, vi a.rules.rest, vi a.rules.tries, vi a.rules.crew, vi 0, vi 0, .slice none 0 0, .slice none 0 0, .slice none 0 0, .slice none 0 0])] (NR (UL 4 [] [(28, (hC a a1a a1c a2a a2c a3a a3c a4a a4c a5a a5c)), (38, hZ), (38, [.slice a1 a.rules.seats.length c2, vi a.rules.tiers, vi a.rules.room, vi a.rules.size, vi a.rules.period, vi a.rules.window, vi a.rules.rest, vi a.rules.tries, vi a.rules.crew, vi a.now, vi 0, .slice none 0 0, .slice none 0 0, .slice none 0 0, .slice none 0 0])] (NR ?_)))
 refine UL 4 [] [(28, (hC a a1a a1c a2a a2c a3a a3c a4a a4c a5a a5c)), (38, hZ), (38, (hD a a1 a.rules.seats.length c2 none 0 0 none 0 0 none 0 0 none 0 0))] (NR (UU 2 [(15, .v (.slice a2a a.parties.length a2c))] (OPC (CX 16 (fun w hw => toPartyS_c w a.parties a2a a2c (ha2.fr hw.fr) LA) ?_))))
 rintro ⟨a3, c4⟩
 refine UL 2 [] [(28, (hC a a1a a1c a2a a2c a3a a3c a4a a4c a5a a5c)), (38, hZ), (38, (hD a a1 a.rules.seats.length c2 a3 a.parties.length c4 none 0 0 none 0 0 none 0 0))] (NR (UU 2 [(19, .v (.slice a3a a.cabins.length a3c))] (OPC (CX 20 (fun w hw => toCabinS_c w a.cabins a3a a3c (ha3.fr hw.fr) LA (by first | assumption | exact hs.2.2.2.2.2)) ?_))))
 rintro ⟨a5, c6⟩
 refine UL 2 [] [(28, (hC a a1a a1c a2a a2c a3a a3c a4a a4c a5a a5c)), (38, hZ), (38, (hD a a1 a.rules.seats.length c2 a3 a.parties.length c4 a5 a.cabins.length c6 none 0 0 none 0 0))] (NR (UU 2 [(23, .v (.slice a4a a.todo.length a4c))] (OPC (CX 24 (fun w hw => toIntS_c w a.todo a4a a4c (ha4.fr hw.fr) LA) ?_))))
 rintro ⟨a7, c8⟩
 refine UL 2 [] [(28, (hC a a1a a1c a2a a2c a3a a3c a4a a4c a5a a5c)), (38, hZ), (38, (hD a a1 a.rules.seats.length c2 a3 a.parties.length c4 a5 a.cabins.length c6 a7 a.todo.length c8 none 0 0))] (NR (UU 2 [(27, .v (.slice a5a a.jobs.length a5c))] (OPC (CX 28 (fun w hw => toIntS_c w a.jobs a5a a5c (ha5.fr hw.fr) LA) ?_))))
 rintro ⟨a9, c10⟩
 refine UL 2 [] [(28, (hC a a1a a1c a2a a2c a3a a3c a4a a4c a5a a5c)), (38, hZ), (38, (hC a a1 c2 a3 c4 a5 c6 a7 c8 a9 c10))] (NR (UL 2 [] [(28, (hC a a1a a1c a2a a2c a3a a3c a4a a4c a5a a5c)), (38, (hC a a1 c2 a3 c4 a5 c6 a7 c8 a9 c10)), (38, (hC a a1 c2 a3 c4 a5 c6 a7 c8 a9 c10))] (XN (RET ?_))))
 refine FIN (.agg (hC a a1 c2 a3 c4 a5 c6 a7 c8 a9 c10).toArray) KR ((a1, c2), (a3, c4), (a5, c6), (a7, c8), (a9, c10)) ?_ [0, 0, 0, 0, 0] ?_
 · rfl
 rfl
end SX
end Go.Proofs.YtejojcoaohlfbaaGreat
