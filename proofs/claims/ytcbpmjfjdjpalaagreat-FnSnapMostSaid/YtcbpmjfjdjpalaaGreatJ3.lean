/- Walks, printed by program. -/
import Derived.Test.YtcbpmjfjdjpalaaGreatMdlx
import Derived.Test.YtcbpmjfjdjpalaaGreatJ2
import Derived.Test.YtcbpmjfjdjpalaaGreatMdlm
namespace Go.Proofs.YtcbpmjfjdjpalaaGreat
namespace SX
open Go Go.RowKit
set_option linter.unusedVariables false
set_option linter.unusedSimpArgs false
set_option maxRecDepth 10000
set_option maxHeartbeats 400000
theorem sPinsOf_c (W : World) (wh : Wheel) (wh_spoke_a : Option Addr) (wh_spoke_c : Nat) (hwh_spoke : Rd (sl 114 pinL) W wh_spoke_a wh.spoke) (hb : wh.spoke.flatten.length ≤ 1048576) : Spec Tryz.prog W [] 81 #[.agg #[.slice wh_spoke_a wh.spoke.length wh_spoke_c]] (⟨HH, fun p => .slice p.1 ((pinsOf wh).length) p.2, fun p => [slA 114 pinL (.slice p.1 (pinsOf wh).length p.2) (pinsOf wh)]⟩) := by
 refine ENTER0 (N := 26) (vs := [.agg #[.slice wh_spoke_a wh.spoke.length wh_spoke_c]]) Tryz.func81 rfl rfl (NL rfl) ?_
 have hwh_spoke_len := hwh_spoke.len
 refine SEQ (RG (UL 2 [(1, .p 0 0)] [(58, [.slice wh_spoke_a wh.spoke.length wh_spoke_c])] (NR (OPC (BUILDS 99 0 #[] 6 99 (by kernel_rfl) (NL rfl) 114 [] (by kernel_rfl) pinL [] rfl (by simp only [maxLen]; omega) [] [] _ rfl (flatRep rfl) (fun a1 ha2 => (UU 1 [(3, .v (.slice a1 0 0))] (ENDOPS (NEXT (SEQ (SEQ (RG (UU 1 [(7, .v (.agg #[.slice wh_spoke_a wh.spoke.length wh_spoke_c]))] (OPC (CA 106 #[.agg #[.slice wh_spoke_a wh.spoke.length wh_spoke_c]] (some 8) (RV (.bool (wheelOk wh))) (fun w hw => sWheelOk_c w wh wh_spoke_a wh_spoke_c (hwh_spoke.fr hw.fr) (by first | assumption | omega | (dsimp only; omega) | (simp only [List.length_append, List.length_cons, List.length_nil] at *; omega))) ?_)))))))))))))))
 rintro ⟨⟩
 refine UU 1 [(9, B (!(wheelOk wh)))] (NI (!(wheelOk wh)) (fun bh3 => ?_) (fun bh3 => ?_))
 ·
  have h3 := notT bh3
  refine SEQ (RG (UU 2 [(2, .v (.slice a1 0 0))] (ENDOPS (NEXT (RET (PASS trivial ?_))))))
  have efin : pinsOf wh = [] := by (first | (simp_all [pinsOf]; done) | (simp_all [pinsOf, List.foldl_nil]))
  refine FIN (.slice a1 0 0) (by kernel_rfl) (a1, 0) ?_ [0] ?_
  · (rw [efin] <;> rfl)
  · (rw [efin] <;> rfl)
 ·
  have h3 := notF bh3
  refine SKIP (NEXT (SEQ (RG (UU 1 [(11, .v (.agg #[.slice wh_spoke_a wh.spoke.length wh_spoke_c]))] (OPC (CA 109 #[.agg #[.slice wh_spoke_a wh.spoke.length wh_spoke_c]] (some 12) (⟨HH, fun p => .slice p.1 wh.spoke.flatten.length p.2, fun p => [slA 114 pinL (.slice p.1 wh.spoke.flatten.length p.2) wh.spoke.flatten]⟩) (fun w hw => sl9All_c w wh wh_spoke_a wh_spoke_c (hwh_spoke.fr hw.fr) (by first | assumption | omega | (dsimp only; omega) | (simp only [List.length_append, List.length_cons, List.length_nil] at *; omega))) ?_))))))
  rintro ⟨a4, c5⟩
  refine UU 1 [(4, .v (.slice a4 wh.spoke.flatten.length c5))] (ENDOPS (NEXT (SEQ (SEQ (RG (UU 1 [(5, I 0)] (ENDOPS (NEXT (BLOCK (LOOP (ι := Nat × (List Pin) × (Option Addr) × Nat × (List Pin)) (fun j => [(3, .v (.slice j.2.2.1 j.2.2.2.2.length j.2.2.2.1)), (4, .v (.slice a4 wh.spoke.flatten.length c5)), (5, I (j.1 : Int))]) (fun j => [(58, [.slice wh_spoke_a wh.spoke.length wh_spoke_c])]) (fun j => [slA 114 pinL (.slice j.2.2.1 j.2.2.2.2.length j.2.2.2.1) j.2.2.2.2, slA 114 pinL (.slice a4 wh.spoke.flatten.length c5) wh.spoke.flatten]) (fun j => j.1 + j.2.1.length = wh.spoke.flatten.length ∧ wh.spoke.flatten.drop j.1 = j.2.1 ∧ j.2.2.2.2.length ≤ j.1 ∧ pinsSort wh.spoke.flatten = j.2.1.foldl pIns j.2.2.2.2) (fun j => j.2.1.length) (0, wh.spoke.flatten, a1, 0, []) [3, 4, 5] ⟨by simp, rfl, by simp, rfl⟩ (by kernel_rfl) rfl rfl ?_))))))))))
  rintro ⟨k, ys, oa, oc, out⟩ ⟨hk, hd, hv0, hv1⟩
  try dsimp only at hk hd hv0 hv1
  refine SEQ (SEQ (RG (UU 4 [(16, B (decide ((k : Int) < (wh.spoke.flatten.length : Int))))] (NI (decide ((k : Int) < (wh.spoke.flatten.length : Int))) (fun bh6 => ?_) (fun bh6 => ?_)))))
  ·
   have h6 := of_decide_eq_true bh6
   obtain ⟨y7, ys8, rfl, hx_y7, hd_y7, hl_y7⟩ := drop_cons hd hk (by omega)
   refine SKIP (NEXT (SEQ (BLOCK (RG (UU 3 [(19, .v (.slice oa out.length oc)), (20, .v (.slice a4 wh.spoke.flatten.length c5)), (21, I (k : Int))] (FACT (a4.isSome = true) (fun w hw => SlO.isS (hw.own 1 rfl) (by first | omega | (dsimp only; omega))) (fun hs9 => (OPC (IX 99 (.tmp 20) (.tmp 21) 22 0 a4 wh.spoke.flatten.length c5 .i64 (k : Int) 114 2 hs9 (by omega) (by omega) (OPC (LE 114 (.tmp 22) 23 114 a4 (k * 2) 0 (pinE y7) (.agg (pinE y7).toArray) (fun w hw => (hw.rdO 1 rfl).flat hx_y7) (FACT (out.length ≤ oc) (fun w hw => SlO.capE (hw.own 0 rfl)) (fun hcap10 => (OPC (CA 110 #[.slice oa out.length oc, .agg #[vi y7.at', vi y7.id]] (some 24) (⟨HH, fun p => .slice p.1 ((pIns out y7).length) p.2, fun p => [slA 114 pinL (.slice p.1 (pIns out y7).length p.2) (pIns out y7)]⟩) (fun w hw => sl9Put_c w out oa oc (hw.rdO 0 rfl) y7 (by first | assumption | omega | (dsimp only; omega) | (simp only [List.length_append, List.length_cons, List.length_nil] at *; omega)) (by first | assumption | omega | (dsimp only; omega) | (simp only [List.length_append, List.length_cons, List.length_nil] at *; omega))) ?_)))))))))))))))
   rintro ⟨a11, c12⟩
   have hr13 := pIns_len out y7
   refine UU 1 [(3, .v (.slice a11 ((pIns out y7).length) c12))] (ENDOPS (OUTN (NEXT (RG (UU 2 [(18, I (wr ((k : Int) + 1)))] (CS 18 (vi (wr ((k : Int) + 1))) (vi ((k + 1 : Nat) : Int)) (vi_cast (by omega) (by omega)) (UU 1 [(5, I ((k + 1 : Nat) : Int))] (ENDOPS (BK (k + 1, ys8, a11, c12, pIns out y7) [3, 4, 5] 1 [2, 1] ⟨hl_y7, hd_y7, (by simp only [pIns_len]; first | omega | (dsimp only; omega)), (hv1.trans (by simp [List.foldl_cons]))⟩ (by simp))))))))))
  ·
   have h6 := of_decide_eq_false bh6
   obtain rfl := drop_nil hk (by omega)
   refine EXIT (PASS trivial (PASS trivial (OUT (NEXT (SEQ (RG (UU 2 [(2, .v (.slice oa out.length oc))] (ENDOPS (NEXT (RET ?_))))))))))
   have efin : pinsOf wh = out := by (first | (simp_all [pinsOf]; done) | (simp_all [pinsOf, List.foldl_nil]))
   refine FIN (.slice oa out.length oc) (by kernel_rfl) (oa, oc) ?_ [0] ?_
   · (rw [efin] <;> rfl)
   · (rw [efin] <;> rfl)

theorem sCabinOk_c (W : World) (ca : Cabin) (ca_row_a : Option Addr) (ca_row_c : Nat) (hca_row : Rd entryL W ca_row_a ca.row) (ca_wheel_spoke_a : Option Addr) (ca_wheel_spoke_c : Nat) (hca_wheel_spoke : Rd (sl 114 pinL) W ca_wheel_spoke_a ca.wheel.spoke) (hb : ca.wheel.spoke.flatten.length ≤ 1048576) : Spec Tryz.prog W [] 77 #[.agg #[vi ca.seats.total, vi ca.seats.free, vi ca.seats.held, vi ca.seats.sold, vi ca.seats.tied, .slice ca_row_a ca.row.length ca_row_c, .slice ca_wheel_spoke_a ca.wheel.spoke.length ca_wheel_spoke_c]] (RV (.bool (cabinOk ca))) := by
 refine ENTER0 (N := 16) (vs := [.agg #[vi ca.seats.total, vi ca.seats.free, vi ca.seats.held, vi ca.seats.sold, vi ca.seats.tied, .slice ca_row_a ca.row.length ca_row_c, .slice ca_wheel_spoke_a ca.wheel.spoke.length ca_wheel_spoke_c]]) Tryz.func77 rfl rfl (NL rfl) ?_
 have hca_row_len := hca_row.len
 have hca_wheel_spoke_len := hca_wheel_spoke.len
 refine SEQ (RG (UL 2 [(1, .p 0 0)] [(60, [vi ca.seats.total, vi ca.seats.free, vi ca.seats.held, vi ca.seats.sold, vi ca.seats.tied, .slice ca_row_a ca.row.length ca_row_c, .slice ca_wheel_spoke_a ca.wheel.spoke.length ca_wheel_spoke_c])] (NR (UU 2 [(4, .v (.agg (ledgerE ca.seats).toArray))] (OPC (CA 104 #[.agg #[vi ca.seats.total, vi ca.seats.free, vi ca.seats.held, vi ca.seats.sold, vi ca.seats.tied]] (some 5) (RV (.bool (ledgerOk ca.seats))) (fun w hw => sLedgerOk_c w ca.seats) ?_))))))
 rintro ⟨⟩
 refine UU 1 [(6, B (ledgerOk ca.seats))] (SP 6 (ledgerOk ca.seats) (fun bh1 => ?_) (fun bh1 => ?_))
 ·
  have h1 := bh1
  refine UU 2 [(8, .v (.slice ca_row_a ca.row.length ca_row_c))] (OPC (CA 105 #[.slice ca_row_a ca.row.length ca_row_c] (some 9) (RV (.bool (queueOk ca.row))) (fun w hw => sQueueOk_c w ca.row ca_row_a ca_row_c (hca_row.fr hw.fr)) ?_))
  rintro ⟨⟩
  refine UU 2 [(11, B (queueOk ca.row))] (SP 11 (queueOk ca.row) (fun bh2 => ?_) (fun bh2 => ?_))
  ·
   have h2 := bh2
   refine UU 2 [(13, .v (.agg #[.slice ca_wheel_spoke_a ca.wheel.spoke.length ca_wheel_spoke_c]))] (OPC (CA 106 #[.agg #[.slice ca_wheel_spoke_a ca.wheel.spoke.length ca_wheel_spoke_c]] (some 14) (RV (.bool (wheelOk ca.wheel))) (fun w hw => sWheelOk_c w ca.wheel ca_wheel_spoke_a ca_wheel_spoke_c (hca_wheel_spoke.fr hw.fr) (by first | assumption | omega | (dsimp only; omega) | (simp only [List.length_append, List.length_cons, List.length_nil] at *; omega))) ?_))
   rintro ⟨⟩
   refine UU 2 [(2, B (wheelOk ca.wheel))] (ENDOPS (NEXT (RF rfl (.bool (wheelOk ca.wheel)) () [] ?_ ?_)))
   · (first | (simp_all [RV, cabinOk]; done) | (simp [RV, cabinOk, *]; done))
   · rfl
  ·
   have h2 := bh2
   refine UU 5 [(2, B false)] (ENDOPS (NEXT (RF rfl (.bool false) () [] ?_ ?_)))
   · (first | (simp_all [RV, cabinOk]; done) | (simp [RV, cabinOk, *]; done))
   · rfl
 ·
  have h1 := bh1
  refine UU 10 [(2, B false)] (ENDOPS (NEXT (RF rfl (.bool false) () [] ?_ ?_)))
  · (first | (simp_all [RV, cabinOk]; done) | (simp [RV, cabinOk, *]; done))
  · rfl

theorem sAgrees_c (W : World) (r : Rules) (r_seats_a : Option Addr) (r_seats_c : Nat) (hr_seats : Rd intL W r_seats_a r.seats) (ca : Cabin) (ca_row_a : Option Addr) (ca_row_c : Nat) (hca_row : Rd entryL W ca_row_a ca.row) (ca_wheel_spoke_a : Option Addr) (ca_wheel_spoke_c : Nat) (hca_wheel_spoke : Rd (sl 114 pinL) W ca_wheel_spoke_a ca.wheel.spoke) (list : List Party) (list_a : Option Addr) (list_c : Nat) (hlist : Rd partyL W list_a list) (cabin : Int) (now : Int) (hb : ca.wheel.spoke.flatten.length ≤ 1048576) (hl : list.length ≤ 1048576) : Spec Tryz.prog W [] 40 #[.agg #[.slice r_seats_a r.seats.length r_seats_c, vi r.tiers, vi r.room, vi r.size, vi r.period, vi r.window, vi r.rest, vi r.tries, vi r.crew], .agg #[vi ca.seats.total, vi ca.seats.free, vi ca.seats.held, vi ca.seats.sold, vi ca.seats.tied, .slice ca_row_a ca.row.length ca_row_c, .slice ca_wheel_spoke_a ca.wheel.spoke.length ca_wheel_spoke_c], .slice list_a list.length list_c, vi cabin, vi now] (RV (.bool (agrees r ca list cabin now))) := by
 refine ENTER0 (N := 50) (vs := [.agg #[.slice r_seats_a r.seats.length r_seats_c, vi r.tiers, vi r.room, vi r.size, vi r.period, vi r.window, vi r.rest, vi r.tries, vi r.crew], .agg #[vi ca.seats.total, vi ca.seats.free, vi ca.seats.held, vi ca.seats.sold, vi ca.seats.tied, .slice ca_row_a ca.row.length ca_row_c, .slice ca_wheel_spoke_a ca.wheel.spoke.length ca_wheel_spoke_c], .slice list_a list.length list_c, vi cabin, vi now]) Tryz.func40 rfl rfl (NL rfl) ?_
 have hr_seats_len := hr_seats.len
 have hca_row_len := hca_row.len
 have hca_wheel_spoke_len := hca_wheel_spoke.len
 have hlist_len := hlist.len
 refine SEQ (RG (UL 3 [(5, .p 0 0), (6, .p 1 0)] [(26, [.slice r_seats_a r.seats.length r_seats_c, vi r.tiers, vi r.room, vi r.size, vi r.period, vi r.window, vi r.rest, vi r.tries, vi r.crew]), (60, [vi ca.seats.total, vi ca.seats.free, vi ca.seats.held, vi ca.seats.sold, vi ca.seats.tied, .slice ca_row_a ca.row.length ca_row_c, .slice ca_wheel_spoke_a ca.wheel.spoke.length ca_wheel_spoke_c])] (ENDOPS (NEXT (SEQ (EXPORT (fun bs hbs => ?_)))))))
 obtain ⟨b1, b2, rfl⟩ := len2 hbs
 refine REGIONH (by kernel_rfl) 40 rfl [ptC b1 26 [.slice r_seats_a r.seats.length r_seats_c, vi r.tiers, vi r.room, vi r.size, vi r.period, vi r.window, vi r.rest, vi r.tries, vi r.crew], ptC b2 60 [vi ca.seats.total, vi ca.seats.free, vi ca.seats.held, vi ca.seats.sold, vi ca.seats.tied, .slice ca_row_a ca.row.length ca_row_c, .slice ca_wheel_spoke_a ca.wheel.spoke.length ca_wheel_spoke_c]] (HLOADE (i := 0) (js := [0, 0])  60 (.tmp 6) 11 60 (by kernel_rfl) (NL rfl) (some ⟨b2, 0, none⟩) 0 0 ([vi ca.seats.total, vi ca.seats.free, vi ca.seats.held, vi ca.seats.sold, vi ca.seats.tied, .slice ca_row_a ca.row.length ca_row_c, .slice ca_wheel_spoke_a ca.wheel.spoke.length ca_wheel_spoke_c]) (.agg #[vi ca.seats.total, vi ca.seats.free, vi ca.seats.held, vi ca.seats.sold, vi ca.seats.tied, .slice ca_row_a ca.row.length ca_row_c, .slice ca_wheel_spoke_a ca.wheel.spoke.length ca_wheel_spoke_c]) (by kernel_rfl) (fun w hw => ptC_elem (hw.own 1 rfl)) (by kernel_rfl) (by kernel_rfl) rfl (HALL [1] (by kernel_rfl) (by decide) (CA 77 #[.agg #[vi ca.seats.total, vi ca.seats.free, vi ca.seats.held, vi ca.seats.sold, vi ca.seats.tied, .slice ca_row_a ca.row.length ca_row_c, .slice ca_wheel_spoke_a ca.wheel.spoke.length ca_wheel_spoke_c]] (some 12) (RV (.bool (cabinOk ca))) (fun w hw => sCabinOk_c w ca ca_row_a ca_row_c (hca_row.fr hw.fr) ca_wheel_spoke_a ca_wheel_spoke_c (hca_wheel_spoke.fr hw.fr) (by first | assumption | omega | (dsimp only; omega) | (simp only [List.length_append, List.length_cons, List.length_nil] at *; omega))) ?_)))
 rintro ⟨⟩
 refine HKEEP (js := [0, 0]) rfl (HP [0, 0] 2 [(13, B (cabinOk ca))] (SP 13 (cabinOk ca) (fun bh3 => ?_) (fun bh3 => ?_)))
 ·
  have h3 := bh3
  refine HP [0, 0] 3 [(14, .e (some ⟨b2, 0, none⟩) 0 5)] (HLOADE (i := 4) (js := [0, 0])  55 (.tmp 14) 15 55 (by kernel_rfl) (NL rfl) (some ⟨b2, 0, none⟩) 0 5 ([vi ca.seats.total, vi ca.seats.free, vi ca.seats.held, vi ca.seats.sold, vi ca.seats.tied, .slice ca_row_a ca.row.length ca_row_c, .slice ca_wheel_spoke_a ca.wheel.spoke.length ca_wheel_spoke_c]) (.slice ca_row_a ca.row.length ca_row_c) (by kernel_rfl) (fun w hw => ptC_elem (hw.own 1 rfl)) (by kernel_rfl) (by kernel_rfl) rfl (HLOADE (i := 5) (js := [0, 0])  26 (.tmp 5) 16 26 (by kernel_rfl) (NL rfl) (some ⟨b1, 0, none⟩) 0 0 ([.slice r_seats_a r.seats.length r_seats_c, vi r.tiers, vi r.room, vi r.size, vi r.period, vi r.window, vi r.rest, vi r.tries, vi r.crew]) (.agg #[.slice r_seats_a r.seats.length r_seats_c, vi r.tiers, vi r.room, vi r.size, vi r.period, vi r.window, vi r.rest, vi r.tries, vi r.crew]) (by kernel_rfl) (fun w hw => ptC_elem (hw.own 0 rfl)) (by kernel_rfl) (by kernel_rfl) rfl (HP [0, 0] 6 [(17, .v (.slice list_a list.length list_c))] (HP [0, 0] 7 [(18, I cabin)] (HP [0, 0] 8 [(19, I now)] (HALL [9] (by kernel_rfl) (by decide) (CA 79 #[.agg #[.slice r_seats_a r.seats.length r_seats_c, vi r.tiers, vi r.room, vi r.size, vi r.period, vi r.window, vi r.rest, vi r.tries, vi r.crew], .slice list_a list.length list_c, vi cabin, vi now] (some 20) (⟨HH, fun p => .slice p.1 ((queueOf r list cabin now).length) p.2, fun p => [slA 63 entryL (.slice p.1 (queueOf r list cabin now).length p.2) (queueOf r list cabin now)]⟩) (fun w hw => sQueueOf_c w r r_seats_a r_seats_c (hr_seats.fr hw.fr) list list_a list_c (hlist.fr hw.fr) cabin now (by first | assumption | omega | (dsimp only; omega) | (simp only [List.length_append, List.length_cons, List.length_nil] at *; omega))) ?_)))))))
  rintro ⟨a4, c5⟩
  refine HKEEP (js := [0, 0]) rfl (HALL [10] (by kernel_rfl) (by decide) (CA 78 #[.slice ca_row_a ca.row.length ca_row_c, .slice a4 ((queueOf r list cabin now).length) c5] (some 21) (RV (.bool (sameRow ca.row (queueOf r list cabin now)))) (fun w hw => sSameRow_c w ca.row ca_row_a ca_row_c (hca_row.fr hw.fr) (queueOf r list cabin now) a4 c5 (hw.rdO 2 rfl)) ?_))
  rintro ⟨⟩
  refine HKEEP (js := [0, 0]) rfl (HP [0, 0] 11 [(22, B (sameRow ca.row (queueOf r list cabin now)))] (HP [0, 0] 12 [(23, B (sameRow ca.row (queueOf r list cabin now)))] (SP 23 (sameRow ca.row (queueOf r list cabin now)) (fun bh6 => ?_) (fun bh6 => ?_))))
  ·
   have h6 := bh6
   refine HP [0, 0] 13 [(24, .e (some ⟨b2, 0, none⟩) 0 6)] (HLOADE (i := 14) (js := [0, 0])  58 (.tmp 24) 25 58 (by kernel_rfl) (NL rfl) (some ⟨b2, 0, none⟩) 0 6 ([vi ca.seats.total, vi ca.seats.free, vi ca.seats.held, vi ca.seats.sold, vi ca.seats.tied, .slice ca_row_a ca.row.length ca_row_c, .slice ca_wheel_spoke_a ca.wheel.spoke.length ca_wheel_spoke_c]) (.agg #[.slice ca_wheel_spoke_a ca.wheel.spoke.length ca_wheel_spoke_c]) (by kernel_rfl) (fun w hw => ptC_elem (hw.own 1 rfl)) (by kernel_rfl) (by kernel_rfl) rfl (HP [0, 0] 16 [(27, .v (.slice list_a list.length list_c))] (HP [0, 0] 17 [(28, I cabin)] (HALL [15] (by kernel_rfl) (by decide) (CA 81 #[.agg #[.slice ca_wheel_spoke_a ca.wheel.spoke.length ca_wheel_spoke_c]] (some 26) (⟨HH, fun p => .slice p.1 ((pinsOf ca.wheel).length) p.2, fun p => [slA 114 pinL (.slice p.1 (pinsOf ca.wheel).length p.2) (pinsOf ca.wheel)]⟩) (fun w hw => sPinsOf_c w ca.wheel ca_wheel_spoke_a ca_wheel_spoke_c (hca_wheel_spoke.fr hw.fr) (by first | assumption | omega | (dsimp only; omega) | (simp only [List.length_append, List.length_cons, List.length_nil] at *; omega))) ?_)))))
   rintro ⟨a7, c8⟩
   refine HKEEP (js := [0, 0]) rfl (HALL [18] (by kernel_rfl) (by decide) (CA 82 #[.slice list_a list.length list_c, vi cabin] (some 29) (⟨HH, fun p => .slice p.1 ((pinsGo list cabin []).length) p.2, fun p => [slA 114 pinL (.slice p.1 (pinsGo list cabin []).length p.2) (pinsGo list cabin [])]⟩) (fun w hw => sPinsIn_c w list list_a list_c (hlist.fr hw.fr) cabin (by first | assumption | omega | (dsimp only; omega) | (simp only [List.length_append, List.length_cons, List.length_nil] at *; omega))) ?_))
   rintro ⟨a9, c10⟩
   refine HKEEP (js := [0, 0]) rfl (HALL [19] (by kernel_rfl) (by decide) (CA 80 #[.slice a7 ((pinsOf ca.wheel).length) c8, .slice a9 ((pinsGo list cabin []).length) c10] (some 30) (RV (.bool (samePins (pinsOf ca.wheel) (pinsGo list cabin [])))) (fun w hw => sSamePins_c w (pinsOf ca.wheel) a7 c8 (hw.rdO 3 rfl) (pinsGo list cabin []) a9 c10 (hw.rdO 4 rfl)) ?_))
   rintro ⟨⟩
   refine HKEEP (js := [0, 0]) rfl (HP [0, 0] 20 [(31, B (samePins (pinsOf ca.wheel) (pinsGo list cabin [])))] (HP [0, 0] 21 [(32, B (samePins (pinsOf ca.wheel) (pinsGo list cabin [])))] (SP 32 (samePins (pinsOf ca.wheel) (pinsGo list cabin [])) (fun bh11 => ?_) (fun bh11 => ?_))))
   ·
    have h11 := bh11
    refine HP [0, 0] 22 [(33, .e (some ⟨b2, 0, none⟩) 0 0)] (HP [0, 0] 23 [(34, .e (some ⟨b2, 0, none⟩) 0 2)] (HLOADE (i := 24) (js := [0, 0])  3 (.tmp 34) 35 3 (by kernel_rfl) (NL rfl) (some ⟨b2, 0, none⟩) 0 2 ([vi ca.seats.total, vi ca.seats.free, vi ca.seats.held, vi ca.seats.sold, vi ca.seats.tied, .slice ca_row_a ca.row.length ca_row_c, .slice ca_wheel_spoke_a ca.wheel.spoke.length ca_wheel_spoke_c]) (vi ca.seats.held) (by kernel_rfl) (fun w hw => ptC_elem (hw.own 1 rfl)) (by kernel_rfl) (by kernel_rfl) rfl (HP [0, 0] 25 [(36, .v (.slice list_a list.length list_c))] (HP [0, 0] 26 [(37, I cabin)] (HALL [27] (by kernel_rfl) (by decide) (CA 83 #[.slice list_a list.length list_c, vi cabin] (some 38) (RV (vi (heldGo list cabin 0))) (fun w hw => sHeldIn_c w list list_a list_c (hlist.fr hw.fr) cabin) ?_))))))
    rintro ⟨⟩
    refine HKEEP (js := [0, 0]) rfl (HP [0, 0] 28 [(39, B (ca.seats.held == (heldGo list cabin 0)))] (HP [0, 0] 29 [(40, B (ca.seats.held == (heldGo list cabin 0)))] (HP [0, 0] 30 [(41, B (ca.seats.held == (heldGo list cabin 0)))] (SP 41 (ca.seats.held == (heldGo list cabin 0)) (fun bh12 => ?_) (fun bh12 => ?_)))))
    ·
     have h12 := eq_of_beq bh12
     refine HP [0, 0] 31 [(42, .e (some ⟨b2, 0, none⟩) 0 0)] (HP [0, 0] 32 [(43, .e (some ⟨b2, 0, none⟩) 0 4)] (HLOADE (i := 33) (js := [0, 0])  3 (.tmp 43) 44 3 (by kernel_rfl) (NL rfl) (some ⟨b2, 0, none⟩) 0 4 ([vi ca.seats.total, vi ca.seats.free, vi ca.seats.held, vi ca.seats.sold, vi ca.seats.tied, .slice ca_row_a ca.row.length ca_row_c, .slice ca_wheel_spoke_a ca.wheel.spoke.length ca_wheel_spoke_c]) (vi ca.seats.tied) (by kernel_rfl) (fun w hw => ptC_elem (hw.own 1 rfl)) (by kernel_rfl) (by kernel_rfl) rfl (HP [0, 0] 34 [(45, .v (.slice list_a list.length list_c))] (HP [0, 0] 35 [(46, I cabin)] (HALL [36] (by kernel_rfl) (by decide) (CA 84 #[.slice list_a list.length list_c, vi cabin] (some 47) (RV (vi (tiedGo list cabin 0))) (fun w hw => sTiedIn_c w list list_a list_c (hlist.fr hw.fr) cabin) ?_))))))
     rintro ⟨⟩
     refine HKEEP (js := [0, 0]) rfl (HP [0, 0] 37 [(48, B (ca.seats.tied == (tiedGo list cabin 0)))] (HP [0, 0] 38 [(49, B (ca.seats.tied == (tiedGo list cabin 0)))] (HP [0, 0] 39 [(10, B (ca.seats.tied == (tiedGo list cabin 0)))] (HEND (by kernel_rfl) (IMPORT (L0 := [(26, [.slice r_seats_a r.seats.length r_seats_c, vi r.tiers, vi r.room, vi r.size, vi r.period, vi r.window, vi r.rest, vi r.tries, vi r.crew]), (60, [vi ca.seats.total, vi ca.seats.free, vi ca.seats.held, vi ca.seats.sold, vi ca.seats.tied, .slice ca_row_a ca.row.length ca_row_c, .slice ca_wheel_spoke_a ca.wheel.spoke.length ca_wheel_spoke_c])]) (L1 := []) [b1, b2] rfl [0, 0] _ rfl [(10, B (ca.seats.tied == (tiedGo list cabin 0)))] (by kernel_rfl) (by kernel_rfl) (NEXT (RF rfl (.bool (ca.seats.tied == (tiedGo list cabin 0))) () [] ?_ ?_)))))))
     · (first | (simp_all [RV, agrees]; done) | (simp [RV, agrees, *]; done))
     · rfl
    ·
     have h12 := ne_of_beq_false bh12
     refine HSKIP (i := 31) (js := [0, 0]) _ rfl (by kernel_rfl) rfl (HSKIP (i := 32) (js := [0, 0]) _ rfl (by kernel_rfl) rfl (HSKIP (i := 33) (js := [0, 0]) _ rfl (by kernel_rfl) rfl (HSKIP (i := 34) (js := [0, 0]) _ rfl (by kernel_rfl) rfl (HSKIP (i := 35) (js := [0, 0]) _ rfl (by kernel_rfl) rfl (HSKIP (i := 36) (js := [0, 0]) _ rfl (by kernel_rfl) rfl (HSKIP (i := 37) (js := [0, 0]) _ rfl (by kernel_rfl) rfl (HP [0, 0] 38 [(49, B false)] (HP [0, 0] 39 [(10, B false)] (HEND (by kernel_rfl) (IMPORT (L0 := [(26, [.slice r_seats_a r.seats.length r_seats_c, vi r.tiers, vi r.room, vi r.size, vi r.period, vi r.window, vi r.rest, vi r.tries, vi r.crew]), (60, [vi ca.seats.total, vi ca.seats.free, vi ca.seats.held, vi ca.seats.sold, vi ca.seats.tied, .slice ca_row_a ca.row.length ca_row_c, .slice ca_wheel_spoke_a ca.wheel.spoke.length ca_wheel_spoke_c])]) (L1 := []) [b1, b2] rfl [0, 0] _ rfl [(10, B false)] (by kernel_rfl) (by kernel_rfl) (NEXT (RF rfl (.bool false) () [] ?_ ?_))))))))))))
     · (first | (simp_all [RV, agrees]; done) | (simp [RV, agrees, *]; done))
     · rfl
   ·
    have h11 := bh11
    refine HSKIP (i := 22) (js := [0, 0]) _ rfl (by kernel_rfl) rfl (HSKIP (i := 23) (js := [0, 0]) _ rfl (by kernel_rfl) rfl (HSKIP (i := 24) (js := [0, 0]) _ rfl (by kernel_rfl) rfl (HSKIP (i := 25) (js := [0, 0]) _ rfl (by kernel_rfl) rfl (HSKIP (i := 26) (js := [0, 0]) _ rfl (by kernel_rfl) rfl (HSKIP (i := 27) (js := [0, 0]) _ rfl (by kernel_rfl) rfl (HSKIP (i := 28) (js := [0, 0]) _ rfl (by kernel_rfl) rfl (HP [0, 0] 29 [(40, B false)] (HP [0, 0] 30 [(41, B false)] (HSKIP (i := 31) (js := [0, 0]) _ rfl (by kernel_rfl) rfl (HSKIP (i := 32) (js := [0, 0]) _ rfl (by kernel_rfl) rfl (HSKIP (i := 33) (js := [0, 0]) _ rfl (by kernel_rfl) rfl (HSKIP (i := 34) (js := [0, 0]) _ rfl (by kernel_rfl) rfl (HSKIP (i := 35) (js := [0, 0]) _ rfl (by kernel_rfl) rfl (HSKIP (i := 36) (js := [0, 0]) _ rfl (by kernel_rfl) rfl (HSKIP (i := 37) (js := [0, 0]) _ rfl (by kernel_rfl) rfl (HP [0, 0] 38 [(49, B false)] (HP [0, 0] 39 [(10, B false)] (HEND (by kernel_rfl) (IMPORT (L0 := [(26, [.slice r_seats_a r.seats.length r_seats_c, vi r.tiers, vi r.room, vi r.size, vi r.period, vi r.window, vi r.rest, vi r.tries, vi r.crew]), (60, [vi ca.seats.total, vi ca.seats.free, vi ca.seats.held, vi ca.seats.sold, vi ca.seats.tied, .slice ca_row_a ca.row.length ca_row_c, .slice ca_wheel_spoke_a ca.wheel.spoke.length ca_wheel_spoke_c])]) (L1 := []) [b1, b2] rfl [0, 0] _ rfl [(10, B false)] (by kernel_rfl) (by kernel_rfl) (NEXT (RF rfl (.bool false) () [] ?_ ?_)))))))))))))))))))))
    · (first | (simp_all [RV, agrees]; done) | (simp [RV, agrees, *]; done))
    · rfl
  ·
   have h6 := bh6
   refine HSKIP (i := 13) (js := [0, 0]) _ rfl (by kernel_rfl) rfl (HSKIP (i := 14) (js := [0, 0]) _ rfl (by kernel_rfl) rfl (HSKIP (i := 15) (js := [0, 0]) _ rfl (by kernel_rfl) rfl (HSKIP (i := 16) (js := [0, 0]) _ rfl (by kernel_rfl) rfl (HSKIP (i := 17) (js := [0, 0]) _ rfl (by kernel_rfl) rfl (HSKIP (i := 18) (js := [0, 0]) _ rfl (by kernel_rfl) rfl (HSKIP (i := 19) (js := [0, 0]) _ rfl (by kernel_rfl) rfl (HP [0, 0] 20 [(31, B false)] (HP [0, 0] 21 [(32, B false)] (HSKIP (i := 22) (js := [0, 0]) _ rfl (by kernel_rfl) rfl (HSKIP (i := 23) (js := [0, 0]) _ rfl (by kernel_rfl) rfl (HSKIP (i := 24) (js := [0, 0]) _ rfl (by kernel_rfl) rfl (HSKIP (i := 25) (js := [0, 0]) _ rfl (by kernel_rfl) rfl (HSKIP (i := 26) (js := [0, 0]) _ rfl (by kernel_rfl) rfl (HSKIP (i := 27) (js := [0, 0]) _ rfl (by kernel_rfl) rfl (HSKIP (i := 28) (js := [0, 0]) _ rfl (by kernel_rfl) rfl (HP [0, 0] 29 [(40, B false)] (HP [0, 0] 30 [(41, B false)] (HSKIP (i := 31) (js := [0, 0]) _ rfl (by kernel_rfl) rfl (HSKIP (i := 32) (js := [0, 0]) _ rfl (by kernel_rfl) rfl (HSKIP (i := 33) (js := [0, 0]) _ rfl (by kernel_rfl) rfl (HSKIP (i := 34) (js := [0, 0]) _ rfl (by kernel_rfl) rfl (HSKIP (i := 35) (js := [0, 0]) _ rfl (by kernel_rfl) rfl (HSKIP (i := 36) (js := [0, 0]) _ rfl (by kernel_rfl) rfl (HSKIP (i := 37) (js := [0, 0]) _ rfl (by kernel_rfl) rfl (HP [0, 0] 38 [(49, B false)] (HP [0, 0] 39 [(10, B false)] (HEND (by kernel_rfl) (IMPORT (L0 := [(26, [.slice r_seats_a r.seats.length r_seats_c, vi r.tiers, vi r.room, vi r.size, vi r.period, vi r.window, vi r.rest, vi r.tries, vi r.crew]), (60, [vi ca.seats.total, vi ca.seats.free, vi ca.seats.held, vi ca.seats.sold, vi ca.seats.tied, .slice ca_row_a ca.row.length ca_row_c, .slice ca_wheel_spoke_a ca.wheel.spoke.length ca_wheel_spoke_c])]) (L1 := []) [b1, b2] rfl [0, 0] _ rfl [(10, B false)] (by kernel_rfl) (by kernel_rfl) (NEXT (RET ?_))))))))))))))))))))))))))))))
   refine FIN (.bool false) (by kernel_rfl) () ?_ [] ?_
   · (first | (simp_all [RV, agrees]; done) | (simp [RV, agrees, *]; done))
   · rfl
 ·
  have h3 := bh3
  refine HSKIP (i := 3) (js := [0, 0]) _ rfl (by kernel_rfl) rfl (HSKIP (i := 4) (js := [0, 0]) _ rfl (by kernel_rfl) rfl (HSKIP (i := 5) (js := [0, 0]) _ rfl (by kernel_rfl) rfl (HSKIP (i := 6) (js := [0, 0]) _ rfl (by kernel_rfl) rfl (HSKIP (i := 7) (js := [0, 0]) _ rfl (by kernel_rfl) rfl (HSKIP (i := 8) (js := [0, 0]) _ rfl (by kernel_rfl) rfl (HSKIP (i := 9) (js := [0, 0]) _ rfl (by kernel_rfl) rfl (HSKIP (i := 10) (js := [0, 0]) _ rfl (by kernel_rfl) rfl (HP [0, 0] 11 [(22, B false)] (HP [0, 0] 12 [(23, B false)] (HSKIP (i := 13) (js := [0, 0]) _ rfl (by kernel_rfl) rfl (HSKIP (i := 14) (js := [0, 0]) _ rfl (by kernel_rfl) rfl (HSKIP (i := 15) (js := [0, 0]) _ rfl (by kernel_rfl) rfl (HSKIP (i := 16) (js := [0, 0]) _ rfl (by kernel_rfl) rfl (HSKIP (i := 17) (js := [0, 0]) _ rfl (by kernel_rfl) rfl (HSKIP (i := 18) (js := [0, 0]) _ rfl (by kernel_rfl) rfl (HSKIP (i := 19) (js := [0, 0]) _ rfl (by kernel_rfl) rfl (HP [0, 0] 20 [(31, B false)] (HP [0, 0] 21 [(32, B false)] (HSKIP (i := 22) (js := [0, 0]) _ rfl (by kernel_rfl) rfl (HSKIP (i := 23) (js := [0, 0]) _ rfl (by kernel_rfl) rfl (HSKIP (i := 24) (js := [0, 0]) _ rfl (by kernel_rfl) rfl (HSKIP (i := 25) (js := [0, 0]) _ rfl (by kernel_rfl) rfl (HSKIP (i := 26) (js := [0, 0]) _ rfl (by kernel_rfl) rfl (HSKIP (i := 27) (js := [0, 0]) _ rfl (by kernel_rfl) rfl (HSKIP (i := 28) (js := [0, 0]) _ rfl (by kernel_rfl) rfl (HP [0, 0] 29 [(40, B false)] (HP [0, 0] 30 [(41, B false)] (HSKIP (i := 31) (js := [0, 0]) _ rfl (by kernel_rfl) rfl ?_))))))))))))))))))))))))))))
  refine HSKIP (i := 32) (js := [0, 0]) _ rfl (by kernel_rfl) rfl (HSKIP (i := 33) (js := [0, 0]) _ rfl (by kernel_rfl) rfl (HSKIP (i := 34) (js := [0, 0]) _ rfl (by kernel_rfl) rfl (HSKIP (i := 35) (js := [0, 0]) _ rfl (by kernel_rfl) rfl (HSKIP (i := 36) (js := [0, 0]) _ rfl (by kernel_rfl) rfl (HSKIP (i := 37) (js := [0, 0]) _ rfl (by kernel_rfl) rfl (HP [0, 0] 38 [(49, B false)] (HP [0, 0] 39 [(10, B false)] (HEND (by kernel_rfl) (IMPORT (L0 := [(26, [.slice r_seats_a r.seats.length r_seats_c, vi r.tiers, vi r.room, vi r.size, vi r.period, vi r.window, vi r.rest, vi r.tries, vi r.crew]), (60, [vi ca.seats.total, vi ca.seats.free, vi ca.seats.held, vi ca.seats.sold, vi ca.seats.tied, .slice ca_row_a ca.row.length ca_row_c, .slice ca_wheel_spoke_a ca.wheel.spoke.length ca_wheel_spoke_c])]) (L1 := []) [b1, b2] rfl [0, 0] _ rfl [(10, B false)] (by kernel_rfl) (by kernel_rfl) (NEXT (RF rfl (.bool false) () [] ?_ ?_)))))))))))
  · (first | (simp_all [RV, agrees]; done) | (simp [RV, agrees, *]; done))
  · rfl

theorem l1Has_c (W : World) (list : List Int) (list_a : Option Addr) (list_c : Nat) (hlist : Rd intL W list_a list) (x : Int) : Spec Tryz.prog W [] 76 #[.slice list_a list.length list_c, vi x] (RV (.bool ((list).any (fun e : Int => e == x)))) := by
 refine ENTER0 (N := 18) (vs := [.slice list_a list.length list_c, vi x]) Tryz.func76 rfl rfl (NL rfl) ?_
 have hlist_len := hlist.len
 refine SEQ (RG (UU 1 [] (ENDOPS (NEXT (SEQ (SEQ (RG (UU 1 [(5, I 0)] (ENDOPS (NEXT (BLOCK (LOOP (ι := Nat × (List Int)) (fun j => [(0, .v (.slice list_a list.length list_c)), (1, I x), (5, I (j.1 : Int))]) (fun j => []) (fun j => []) (fun j => j.1 + j.2.length = list.length ∧ list.drop j.1 = j.2 ∧ list.any (fun e : Int => e == x) = j.2.any (fun e : Int => e == x)) (fun j => j.2.length) (0, list) [0, 1, 5] ⟨by simp, rfl, rfl⟩ (by kernel_rfl) rfl rfl ?_))))))))))))
 rintro ⟨k, ys⟩ ⟨hk, hd, hv0⟩
 try dsimp only at hk hd hv0
 refine SEQ (SEQ (RG (UU 4 [(9, B (decide ((k : Int) < (list.length : Int))))] (NI (decide ((k : Int) < (list.length : Int))) (fun bh1 => ?_) (fun bh1 => ?_)))))
 ·
  have h1 := of_decide_eq_true bh1
  obtain ⟨y2, ys3, rfl, hx_y2, hd_y2, hl_y2⟩ := drop_cons hd hk (by omega)
  refine SKIP (NEXT (SEQ (BLOCK (SEQ (RG (UU 2 [(12, .v (.slice list_a list.length list_c)), (13, I (k : Int))] (OPC (IX 24 (.tmp 12) (.tmp 13) 14 0 list_a list.length list_c .i64 (k : Int) 3 1 (Rd.some hlist (by omega)) (by omega) (by omega) (OPC (LE 3 (.tmp 14) 15 3 list_a (k * 1) 0 ([vi y2]) (vi y2) (fun w hw => (hlist.fr hw.fr).flat hx_y2) (UU 2 [(17, B (y2 == x))] (NI (y2 == x) (fun bh4 => ?_) (fun bh4 => ?_)))))))))))))
  ·
   have h4 := eq_of_beq bh4
   refine SEQ (RG (UU 1 [(4, B true)] (ENDOPS (NEXT (RF rfl (.bool true) () [] ?_ ?_)))))
   · (first | (simp_all [RV, List.any_cons]; done) | (simp_all [RV]; done))
   · rfl
  ·
   have h4 := ne_of_beq_false bh4
   refine SKIP (OUTN (NEXT (RG (UU 2 [(11, I (wr ((k : Int) + 1)))] (CS 11 (vi (wr ((k : Int) + 1))) (vi ((k + 1 : Nat) : Int)) (vi_cast (by omega) (by omega)) (UU 1 [(5, I ((k + 1 : Nat) : Int))] (ENDOPS (BK (k + 1, ys3) [0, 1, 5] 0 [] ⟨hl_y2, hd_y2, (hv0.trans (by simp_all [List.any_cons]))⟩ (by simp)))))))))
 ·
  have h1 := of_decide_eq_false bh1
  obtain rfl := drop_nil hk (by omega)
  refine EXIT (PASS trivial (PASS trivial (OUT (NEXT (SEQ (RG (UU 1 [(4, B false)] (ENDOPS (NEXT (RF rfl (.bool false) () [] ?_ ?_))))))))))
  · (first | (simp_all [RV, List.any_cons]; done) | (simp_all [RV]; done))
  · rfl

theorem sParties_c (W : World) (ho : House) (ho_rules_seats_a : Option Addr) (ho_rules_seats_c : Nat) (hho_rules_seats : Rd intL W ho_rules_seats_a ho.rules.seats) (ho_parties_a : Option Addr) (ho_parties_c : Nat) (hho_parties : Rd partyL W ho_parties_a ho.parties) (ho_cabins_a : Option Addr) (ho_cabins_c : Nat) (hho_cabins : Rd (cabinLx 63 99 114) W ho_cabins_a ho.cabins) (ho_todo_a : Option Addr) (ho_todo_c : Nat) (hho_todo : Rd intL W ho_todo_a ho.todo) (ho_jobs_a : Option Addr) (ho_jobs_c : Nat) (hho_jobs : Rd intL W ho_jobs_a ho.jobs) : Spec Tryz.prog W [] 38 #[.agg (hC ho ho_rules_seats_a ho_rules_seats_c ho_parties_a ho_parties_c ho_cabins_a ho_cabins_c ho_todo_a ho_todo_c ho_jobs_a ho_jobs_c).toArray] (RV (.bool (partiesOk ho))) := by
 refine ENTER0 (N := 92) (vs := [.agg (hC ho ho_rules_seats_a ho_rules_seats_c ho_parties_a ho_parties_c ho_cabins_a ho_cabins_c ho_todo_a ho_todo_c ho_jobs_a ho_jobs_c).toArray]) Tryz.func38 rfl rfl (NL rfl) ?_
 have hho_rules_seats_len := hho_rules_seats.len
 have hho_parties_len := hho_parties.len
 have hho_cabins_len := hho_cabins.len
 have hho_todo_len := hho_todo.len
 have hho_jobs_len := hho_jobs.len
 refine SEQ (RG (UL 2 [(1, .p 0 0)] [(30, (hC ho ho_rules_seats_a ho_rules_seats_c ho_parties_a ho_parties_c ho_cabins_a ho_cabins_c ho_todo_a ho_todo_c ho_jobs_a ho_jobs_c))] (ENDOPS (NEXT (SEQ (SEQ (RG (UU 1 [(3, I 0)] (ENDOPS (NEXT (BLOCK (LOOP (ι := Nat × (List Party)) (fun j => [(1, .p 0 0), (3, I (j.1 : Int))]) (fun j => [(30, (hC ho ho_rules_seats_a ho_rules_seats_c ho_parties_a ho_parties_c ho_cabins_a ho_cabins_c ho_todo_a ho_todo_c ho_jobs_a ho_jobs_c))]) (fun j => []) (fun j => j.1 + j.2.length = ho.parties.length ∧ ho.parties.drop j.1 = j.2 ∧ (∀ (i : Nat) (p : Party), i < j.1 → ho.parties[i]? = some p → PartyH ho i p ∧ PartyI ho p i)) (fun j => j.2.length) (0, ho.parties) [1, 3] ⟨by simp, rfl, fun i p hi => absurd hi (Nat.not_lt_zero _)⟩ (by kernel_rfl) rfl rfl ?_))))))))))))
 rintro ⟨k, ys⟩ ⟨hk, hd, hv0⟩
 try dsimp only at hk hd hv0
 refine SEQ (SEQ (RG (UU 5 [(11, B (decide ((k : Int) < (ho.parties.length : Int))))] (NI (decide ((k : Int) < (ho.parties.length : Int))) (fun bh1 => ?_) (fun bh1 => ?_)))))
 ·
  have h1 := of_decide_eq_true bh1
  obtain ⟨y2, ys3, rfl, hx_y2, hd_y2, hl_y2⟩ := drop_cons hd hk (by omega)
  refine SKIP (NEXT (SEQ (BLOCK (SEQ (RG (UU 3 [(15, .v (.slice ho_parties_a ho.parties.length ho_parties_c)), (16, I (k : Int))] (OPC (IX 27 (.tmp 15) (.tmp 16) 17 0 ho_parties_a ho.parties.length ho_parties_c .i64 (k : Int) 46 10 (Rd.some hho_parties (by omega)) (by omega) (by omega) (OPC (LE 46 (.tmp 17) 18 46 ho_parties_a (k * 10) 0 (partyE y2) (.agg (partyE y2).toArray) (fun w hw => (hho_parties.fr hw.fr).flat hx_y2) (UL 2 [(4, .p 1 0)] [(30, (hC ho ho_rules_seats_a ho_rules_seats_c ho_parties_a ho_parties_c ho_cabins_a ho_cabins_c ho_todo_a ho_todo_c ho_jobs_a ho_jobs_c)), (46, partyE y2)] (ENDOPS (NEXT (SEQ (SEQ (REGIONQ (by kernel_rfl) (by kernel_rfl) (QU 5 [(20, .v (.agg #[.slice ho_rules_seats_a ho.rules.seats.length ho_rules_seats_c, vi ho.rules.tiers, vi ho.rules.room, vi ho.rules.size, vi ho.rules.period, vi ho.rules.window, vi ho.rules.rest, vi ho.rules.tries, vi ho.rules.crew])), (21, .v (.agg (partyE y2).toArray)), (23, I ho.now)] (QCA 75 #[.agg #[.slice ho_rules_seats_a ho.rules.seats.length ho_rules_seats_c, vi ho.rules.tiers, vi ho.rules.room, vi ho.rules.size, vi ho.rules.period, vi ho.rules.window, vi ho.rules.rest, vi ho.rules.tries, vi ho.rules.crew], .agg #[vi y2.id, vi y2.cabin, vi y2.from', vi y2.size, vi y2.tier, vi y2.since, vi y2.turn, vi y2.state, vi y2.until', vi y2.asked], vi ho.now] (some 24) (.bool (partyOk ho.rules y2 ho.now)) (fun w hw => sPartyOk_c w ho.rules ho_rules_seats_a ho_rules_seats_c (hho_rules_seats.fr hw.fr) y2 ho.now) ?_))))))))))))))))))
  refine QU 2 [(26, B (!(partyOk ho.rules y2 ho.now)))] (QSP 26 (!(partyOk ho.rules y2 ho.now)) (fun bh4 => ?_) (fun bh4 => ?_))
  ·
   have h4 := notT bh4
   refine QU 22 [(48, B true)] (QEND rfl (NEXT (IFT (by kernel_rfl) (SEQ (RG (UU 1 [(2, B false)] (ENDOPS (NEXT (RF rfl (.bool false) () [] ?_ ?_)))))))))
   · (first | (exact congrArg Value.bool (partiesOk_t fun i p hp => hv0 i p (by have := (List.getElem?_eq_some_iff.1 hp).1; simp at hk; omega) hp).symm) | (refine congrArg Value.bool (partiesOk_f fun hw9 => ?_).symm; have wp : ∀ (i : Nat) (p : Party), ho.parties[i]? = some p → PartyH ho i p ∧ PartyI ho p i := hw9; first | omega | (have w6 := (wp k _ hx_y2).1.1; simp_all; done) | (have w6 := (wp k _ hx_y2).1.2.1; omega)))
   · rfl
  ·
   have h4 := notF bh4
   refine QU 7 [(33, B (decide (y2.turn ≥ ho.turn)))] (QSP 33 (decide (y2.turn ≥ ho.turn)) (fun bh5 => ?_) (fun bh5 => ?_))
   ·
    have h5 := of_decide_eq_true bh5
    refine QU 15 [(48, B true)] (QEND rfl (NEXT (IFT (by kernel_rfl) (SEQ (RG (UU 1 [(2, B false)] (ENDOPS (NEXT (RF rfl (.bool false) () [] ?_ ?_)))))))))
    · (first | (exact congrArg Value.bool (partiesOk_t fun i p hp => hv0 i p (by have := (List.getElem?_eq_some_iff.1 hp).1; simp at hk; omega) hp).symm) | (refine congrArg Value.bool (partiesOk_f fun hw9 => ?_).symm; have wp : ∀ (i : Nat) (p : Party), ho.parties[i]? = some p → PartyH ho i p ∧ PartyI ho p i := hw9; first | omega | (have w6 := (wp k _ hx_y2).1.1; simp_all; done) | (have w6 := (wp k _ hx_y2).1.2.1; omega)))
    · rfl
   ·
    have h5 := of_decide_eq_false bh5
    refine QU 3 [(36, B (decide ((k : Int) > 0)))] (QSP 36 (decide ((k : Int) > 0)) (fun bh6 => ?_) (fun bh6 => ?_))
    ·
     have h6 := of_decide_eq_true bh6
     refine QU 4 [(38, .v (.slice ho_parties_a ho.parties.length ho_parties_c)), (40, I (wr ((k : Int) - 1)))] (QCAST (d := 40) (vi (wr ((k : Int) - 1))) (vi ((k - 1 : Nat) : Int)) (by kernel_rfl) (vi_cast (by omega) (by omega)) ?_)
     obtain ⟨x7, hx8⟩ : ∃ y, ho.parties[k - 1]? = some y := ⟨_, List.getElem?_eq_getElem (by omega)⟩
     refine QIX 27 (.tmp 38) (.tmp 40) 41 0 ho_parties_a ho.parties.length ho_parties_c .i64 ((k - 1 : Nat) : Int) 46 10 (Rd.some hho_parties (by omega)) (by omega) (by omega) (QU 1 [(42, .e ho_parties_a ((k - 1) * 10) 0)] (QLE 3 (.tmp 42) 43 3 ho_parties_a ((k - 1) * 10) 0 (partyE x7) (vi x7.id) (fun w hw => (hho_parties.fr hw.fr).flat hx8) (QU 5 [(48, B (decide (x7.id ≥ y2.id)))] (QEND rfl (NEXT (IFK (decide (x7.id ≥ y2.id)) (fun bh9 => ?_) (fun bh9 => ?_)))))))
     ·
      have h9 := of_decide_eq_true bh9
      refine SEQ (RG (UU 1 [(2, B false)] (ENDOPS (NEXT (RF rfl (.bool false) () [] ?_ ?_)))))
      · (first | (exact congrArg Value.bool (partiesOk_t fun i p hp => hv0 i p (by have := (List.getElem?_eq_some_iff.1 hp).1; simp at hk; omega) hp).symm) | (refine congrArg Value.bool (partiesOk_f fun hw9 => ?_).symm; have wp : ∀ (i : Nat) (p : Party), ho.parties[i]? = some p → PartyH ho i p ∧ PartyI ho p i := hw9; first | omega | (have w6 := (wp k _ hx_y2).1.1; simp_all; done) | (have w6 := (wp k _ hx_y2).1.2.1; omega) | (have w6 := (wp k _ hx_y2).1.2.2 (by omega) _ hx8; omega)))
      · rfl
     ·
      have h9 := of_decide_eq_false bh9
      refine SKIP (NEXT (SEQ (RG (UU 1 [(5, I 0)] (ENDOPS (NEXT (BLOCK (LOOP (ι := Nat) (fun j => [(1, .p 0 0), (3, I (k : Int)), (4, .p 1 0), (5, I (j : Int))]) (fun j => [(30, (hC ho ho_rules_seats_a ho_rules_seats_c ho_parties_a ho_parties_c ho_cabins_a ho_cabins_c ho_todo_a ho_todo_c ho_jobs_a ho_jobs_c)), (46, partyE y2)]) (fun j => []) (fun j => j ≤ k ∧ PartyI ho y2 j) (fun j => k - j) (0) [1, 3, 4, 5] ⟨Nat.zero_le _, fun m q hm => absurd hm (Nat.not_lt_zero _)⟩ (by kernel_rfl) rfl rfl ?_))))))))
      rintro j ⟨hj, hpi⟩
      try dsimp only at hj hpi
      refine SEQ (SEQ (RG (UU 3 [(51, B (decide ((j : Int) < (k : Int))))] (NI (decide ((j : Int) < (k : Int))) (fun bh10 => ?_) (fun bh10 => ?_)))))
      ·
       have h10 := of_decide_eq_true bh10
       refine SKIP (NEXT (SEQ (BLOCK (SEQ (RG (UU 3 [(55, .v (.slice ho_parties_a ho.parties.length ho_parties_c)), (56, I (j : Int))] ?_))))))
       obtain ⟨x11, hx12⟩ : ∃ y, ho.parties[j]? = some y := ⟨_, List.getElem?_eq_getElem (by omega)⟩
       refine OPC (IX 27 (.tmp 55) (.tmp 56) 57 0 ho_parties_a ho.parties.length ho_parties_c .i64 (j : Int) 46 10 (Rd.some hho_parties (by omega)) (by omega) (by omega) (OPC (LE 46 (.tmp 57) 58 46 ho_parties_a (j * 10) 0 (partyE x11) (.agg (partyE x11).toArray) (fun w hw => (hho_parties.fr hw.fr).flat hx12) (UL 2 [(6, .p 2 0)] [(30, (hC ho ho_rules_seats_a ho_rules_seats_c ho_parties_a ho_parties_c ho_cabins_a ho_cabins_c ho_todo_a ho_todo_c ho_jobs_a ho_jobs_c)), (46, partyE y2), (46, partyE x11)] (NR (UU 6 [(64, B (x11.turn == y2.turn))] (SP 64 (x11.turn == y2.turn) (fun bh13 => ?_) (fun bh13 => ?_))))))))
       ·
        have h13 := eq_of_beq bh13
        refine UU 27 [(91, B true)] (ENDOPS (NEXT (IFT (by kernel_rfl) (SEQ (RG (UU 1 [(2, B false)] (ENDOPS (NEXT (RF rfl (.bool false) () [] ?_ ?_)))))))))
        · (first | (exact congrArg Value.bool (partiesOk_t fun i p hp => hv0 i p (by have := (List.getElem?_eq_some_iff.1 hp).1; simp at hk; omega) hp).symm) | (refine congrArg Value.bool (partiesOk_f fun hw9 => ?_).symm; have wp : ∀ (i : Nat) (p : Party), ho.parties[i]? = some p → PartyH ho i p ∧ PartyI ho p i := hw9; first | omega | (have w6 := (wp k _ hx_y2).1.1; simp_all; done) | (have w6 := (wp k _ hx_y2).1.2.1; omega) | (have w6 := (wp k _ hx_y2).1.2.2 (by omega) _ hx8; omega) | (have w6 := (wp k _ hx_y2).2 j _ (by omega) hx12; omega)))
        · rfl
       ·
        have h13 := ne_of_beq_false bh13
        refine UU 6 [(70, B (decide (x11.turn < y2.turn)))] (SP 70 (decide (x11.turn < y2.turn)) (fun bh14 => ?_) (fun bh14 => ?_))
        ·
         have h14 := of_decide_eq_true bh14
         refine UU 8 [(78, B (decide (x11.since > y2.since)))] (SP 78 (decide (x11.since > y2.since)) (fun bh15 => ?_) (fun bh15 => ?_))
         ·
          have h15 := of_decide_eq_true bh15
          refine UU 13 [(91, B true)] (ENDOPS (NEXT (IFT (by kernel_rfl) (SEQ (RG (UU 1 [(2, B false)] (ENDOPS (NEXT (RF rfl (.bool false) () [] ?_ ?_)))))))))
          · (first | (exact congrArg Value.bool (partiesOk_t fun i p hp => hv0 i p (by have := (List.getElem?_eq_some_iff.1 hp).1; simp at hk; omega) hp).symm) | (refine congrArg Value.bool (partiesOk_f fun hw9 => ?_).symm; have wp : ∀ (i : Nat) (p : Party), ho.parties[i]? = some p → PartyH ho i p ∧ PartyI ho p i := hw9; first | omega | (have w6 := (wp k _ hx_y2).1.1; simp_all; done) | (have w6 := (wp k _ hx_y2).1.2.1; omega) | (have w6 := (wp k _ hx_y2).1.2.2 (by omega) _ hx8; omega) | (have w6 := (wp k _ hx_y2).2 j _ (by omega) hx12; omega)))
          · rfl
         ·
          have h15 := of_decide_eq_false bh15
          refine UU 6 [(84, B (decide (x11.turn > y2.turn)))] (SP 84 (decide (x11.turn > y2.turn)) (fun bh16 => ?_) (fun bh16 => ?_))
          ·
           have h16 := of_decide_eq_true bh16
           refine UU 7 [(91, B (decide (x11.since < y2.since)))] (NI (decide (x11.since < y2.since)) (fun bh17 => ?_) (fun bh17 => ?_))
           ·
            have h17 := of_decide_eq_true bh17
            refine SEQ (RG (UU 1 [(2, B false)] (ENDOPS (NEXT (RF rfl (.bool false) () [] ?_ ?_)))))
            · (first | (exact congrArg Value.bool (partiesOk_t fun i p hp => hv0 i p (by have := (List.getElem?_eq_some_iff.1 hp).1; simp at hk; omega) hp).symm) | (refine congrArg Value.bool (partiesOk_f fun hw9 => ?_).symm; have wp : ∀ (i : Nat) (p : Party), ho.parties[i]? = some p → PartyH ho i p ∧ PartyI ho p i := hw9; first | omega | (have w6 := (wp k _ hx_y2).1.1; simp_all; done) | (have w6 := (wp k _ hx_y2).1.2.1; omega) | (have w6 := (wp k _ hx_y2).1.2.2 (by omega) _ hx8; omega) | (have w6 := (wp k _ hx_y2).2 j _ (by omega) hx12; omega)))
            · rfl
           ·
            have h17 := of_decide_eq_false bh17
            refine SKIP (OUTN (NEXT (RG (UU 2 [(53, I (wr ((j : Int) + 1)))] (CS 53 (vi (wr ((j : Int) + 1))) (vi ((j + 1 : Nat) : Int)) (vi_cast (by omega) (by omega)) (UU 1 [(5, I ((j + 1 : Nat) : Int))] (ENDOPS (BK (j + 1) [1, 3, 4, 5] 2 [] ⟨by first | omega | (dsimp only; omega), fun m q hm hq => by by_cases h9 : m = j; (subst h9; rw [hx12] at hq; injection hq with hq; subst hq; exact ⟨by omega, by omega, by omega⟩); exact hpi m q (by omega) hq⟩ (by first | omega | (dsimp only; omega))))))))))
          ·
           have h16 := of_decide_eq_false bh16
           refine UU 7 [(91, B false)] (ENDOPS (NEXT (IFF (by kernel_rfl) (SKIP (OUTN (NEXT (RG (UU 2 [(53, I (wr ((j : Int) + 1)))] (CS 53 (vi (wr ((j : Int) + 1))) (vi ((j + 1 : Nat) : Int)) (vi_cast (by omega) (by omega)) (UU 1 [(5, I ((j + 1 : Nat) : Int))] (ENDOPS (BK (j + 1) [1, 3, 4, 5] 2 [] ⟨by first | omega | (dsimp only; omega), fun m q hm hq => by by_cases h9 : m = j; (subst h9; rw [hx12] at hq; injection hq with hq; subst hq; exact ⟨by omega, by omega, by omega⟩); exact hpi m q (by omega) hq⟩ (by first | omega | (dsimp only; omega))))))))))))))
        ·
         have h14 := of_decide_eq_false bh14
         refine UU 14 [(78, B false), (84, B (decide (x11.turn > y2.turn)))] (SP 84 (decide (x11.turn > y2.turn)) (fun bh18 => ?_) (fun bh18 => ?_))
         ·
          have h18 := of_decide_eq_true bh18
          refine UU 7 [(91, B (decide (x11.since < y2.since)))] (NI (decide (x11.since < y2.since)) (fun bh19 => ?_) (fun bh19 => ?_))
          ·
           have h19 := of_decide_eq_true bh19
           refine SEQ (RG (UU 1 [(2, B false)] (ENDOPS (NEXT (RF rfl (.bool false) () [] ?_ ?_)))))
           · (first | (exact congrArg Value.bool (partiesOk_t fun i p hp => hv0 i p (by have := (List.getElem?_eq_some_iff.1 hp).1; simp at hk; omega) hp).symm) | (refine congrArg Value.bool (partiesOk_f fun hw9 => ?_).symm; have wp : ∀ (i : Nat) (p : Party), ho.parties[i]? = some p → PartyH ho i p ∧ PartyI ho p i := hw9; first | omega | (have w6 := (wp k _ hx_y2).1.1; simp_all; done) | (have w6 := (wp k _ hx_y2).1.2.1; omega) | (have w6 := (wp k _ hx_y2).1.2.2 (by omega) _ hx8; omega) | (have w6 := (wp k _ hx_y2).2 j _ (by omega) hx12; omega)))
           · rfl
          ·
           have h19 := of_decide_eq_false bh19
           refine SKIP (OUTN (NEXT (RG (UU 2 [(53, I (wr ((j : Int) + 1)))] (CS 53 (vi (wr ((j : Int) + 1))) (vi ((j + 1 : Nat) : Int)) (vi_cast (by omega) (by omega)) (UU 1 [(5, I ((j + 1 : Nat) : Int))] (ENDOPS (BK (j + 1) [1, 3, 4, 5] 2 [] ⟨by first | omega | (dsimp only; omega), fun m q hm hq => by by_cases h9 : m = j; (subst h9; rw [hx12] at hq; injection hq with hq; subst hq; exact ⟨by omega, by omega, by omega⟩); exact hpi m q (by omega) hq⟩ (by first | omega | (dsimp only; omega))))))))))
         ·
          have h18 := of_decide_eq_false bh18
          refine UU 7 [(91, B false)] (ENDOPS (NEXT (IFF (by kernel_rfl) (SKIP (OUTN (NEXT (RG (UU 2 [(53, I (wr ((j : Int) + 1)))] (CS 53 (vi (wr ((j : Int) + 1))) (vi ((j + 1 : Nat) : Int)) (vi_cast (by omega) (by omega)) (UU 1 [(5, I ((j + 1 : Nat) : Int))] (ENDOPS (BK (j + 1) [1, 3, 4, 5] 2 [] ⟨by first | omega | (dsimp only; omega), fun m q hm hq => by by_cases h9 : m = j; (subst h9; rw [hx12] at hq; injection hq with hq; subst hq; exact ⟨by omega, by omega, by omega⟩); exact hpi m q (by omega) hq⟩ (by first | omega | (dsimp only; omega))))))))))))))
      ·
       have h10 := of_decide_eq_false bh10
       refine EXIT (PASS trivial (PASS trivial (OUT (OUTN (NEXT (RG (UU 2 [(13, I (wr ((k : Int) + 1)))] (CS 13 (vi (wr ((k : Int) + 1))) (vi ((k + 1 : Nat) : Int)) (vi_cast (by omega) (by omega)) (UU 1 [(3, I ((k + 1 : Nat) : Int))] (ENDOPS (BK (k + 1, ys3) [1, 3] 1 [] ⟨hl_y2, hd_y2, (fun i p hi hp => by by_cases h9 : i = k; (subst h9; rw [hx_y2] at hp; injection hp with hp; subst hp; exact ⟨⟨by assumption, by omega, fun h0 q hq => by rw [hx8] at hq; injection hq with hq; subst hq; omega⟩, (by have hjk : j = i := (by omega); rw [← hjk]; exact hpi)⟩); exact hv0 i p (by omega) hp)⟩ (by simp))))))))))))
    ·
     have h6 := of_decide_eq_false bh6
     refine QU 12 [(48, B false)] (QEND rfl (NEXT (IFF (by kernel_rfl) (SKIP (NEXT (SEQ (RG (UU 1 [(5, I 0)] (ENDOPS (NEXT (BLOCK (LOOP (ι := Nat) (fun j => [(1, .p 0 0), (3, I (k : Int)), (4, .p 1 0), (5, I (j : Int))]) (fun j => [(30, (hC ho ho_rules_seats_a ho_rules_seats_c ho_parties_a ho_parties_c ho_cabins_a ho_cabins_c ho_todo_a ho_todo_c ho_jobs_a ho_jobs_c)), (46, partyE y2)]) (fun j => []) (fun j => j ≤ k ∧ PartyI ho y2 j) (fun j => k - j) (0) [1, 3, 4, 5] ⟨Nat.zero_le _, fun m q hm => absurd hm (Nat.not_lt_zero _)⟩ (by kernel_rfl) rfl rfl ?_))))))))))))
     rintro j ⟨hj, hpi⟩
     try dsimp only at hj hpi
     refine SEQ (SEQ (RG (UU 3 [(51, B (decide ((j : Int) < (k : Int))))] (NI (decide ((j : Int) < (k : Int))) (fun bh20 => ?_) (fun bh20 => ?_)))))
     ·
      have h20 := of_decide_eq_true bh20
      refine SKIP (NEXT (SEQ (BLOCK (SEQ (RG (UU 3 [(55, .v (.slice ho_parties_a ho.parties.length ho_parties_c)), (56, I (j : Int))] ?_))))))
      obtain ⟨x21, hx22⟩ : ∃ y, ho.parties[j]? = some y := ⟨_, List.getElem?_eq_getElem (by omega)⟩
      refine OPC (IX 27 (.tmp 55) (.tmp 56) 57 0 ho_parties_a ho.parties.length ho_parties_c .i64 (j : Int) 46 10 (Rd.some hho_parties (by omega)) (by omega) (by omega) (OPC (LE 46 (.tmp 57) 58 46 ho_parties_a (j * 10) 0 (partyE x21) (.agg (partyE x21).toArray) (fun w hw => (hho_parties.fr hw.fr).flat hx22) (UL 2 [(6, .p 2 0)] [(30, (hC ho ho_rules_seats_a ho_rules_seats_c ho_parties_a ho_parties_c ho_cabins_a ho_cabins_c ho_todo_a ho_todo_c ho_jobs_a ho_jobs_c)), (46, partyE y2), (46, partyE x21)] (NR (UU 6 [(64, B (x21.turn == y2.turn))] (SP 64 (x21.turn == y2.turn) (fun bh23 => ?_) (fun bh23 => ?_))))))))
      ·
       have h23 := eq_of_beq bh23
       refine UU 27 [(91, B true)] (ENDOPS (NEXT (IFT (by kernel_rfl) (SEQ (RG (UU 1 [(2, B false)] (ENDOPS (NEXT (RF rfl (.bool false) () [] ?_ ?_)))))))))
       · (first | (exact congrArg Value.bool (partiesOk_t fun i p hp => hv0 i p (by have := (List.getElem?_eq_some_iff.1 hp).1; simp at hk; omega) hp).symm) | (refine congrArg Value.bool (partiesOk_f fun hw9 => ?_).symm; have wp : ∀ (i : Nat) (p : Party), ho.parties[i]? = some p → PartyH ho i p ∧ PartyI ho p i := hw9; first | omega | (have w6 := (wp k _ hx_y2).1.1; simp_all; done) | (have w6 := (wp k _ hx_y2).1.2.1; omega) | (have w6 := (wp k _ hx_y2).2 j _ (by omega) hx22; omega)))
       · rfl
      ·
       have h23 := ne_of_beq_false bh23
       refine UU 6 [(70, B (decide (x21.turn < y2.turn)))] (SP 70 (decide (x21.turn < y2.turn)) (fun bh24 => ?_) (fun bh24 => ?_))
       ·
        have h24 := of_decide_eq_true bh24
        refine UU 8 [(78, B (decide (x21.since > y2.since)))] (SP 78 (decide (x21.since > y2.since)) (fun bh25 => ?_) (fun bh25 => ?_))
        ·
         have h25 := of_decide_eq_true bh25
         refine UU 13 [(91, B true)] (ENDOPS (NEXT (IFT (by kernel_rfl) (SEQ (RG (UU 1 [(2, B false)] (ENDOPS (NEXT (RF rfl (.bool false) () [] ?_ ?_)))))))))
         · (first | (exact congrArg Value.bool (partiesOk_t fun i p hp => hv0 i p (by have := (List.getElem?_eq_some_iff.1 hp).1; simp at hk; omega) hp).symm) | (refine congrArg Value.bool (partiesOk_f fun hw9 => ?_).symm; have wp : ∀ (i : Nat) (p : Party), ho.parties[i]? = some p → PartyH ho i p ∧ PartyI ho p i := hw9; first | omega | (have w6 := (wp k _ hx_y2).1.1; simp_all; done) | (have w6 := (wp k _ hx_y2).1.2.1; omega) | (have w6 := (wp k _ hx_y2).2 j _ (by omega) hx22; omega)))
         · rfl
        ·
         have h25 := of_decide_eq_false bh25
         refine UU 6 [(84, B (decide (x21.turn > y2.turn)))] (SP 84 (decide (x21.turn > y2.turn)) (fun bh26 => ?_) (fun bh26 => ?_))
         ·
          have h26 := of_decide_eq_true bh26
          refine UU 7 [(91, B (decide (x21.since < y2.since)))] (NI (decide (x21.since < y2.since)) (fun bh27 => ?_) (fun bh27 => ?_))
          ·
           have h27 := of_decide_eq_true bh27
           refine SEQ (RG (UU 1 [(2, B false)] (ENDOPS (NEXT (RF rfl (.bool false) () [] ?_ ?_)))))
           · (first | (exact congrArg Value.bool (partiesOk_t fun i p hp => hv0 i p (by have := (List.getElem?_eq_some_iff.1 hp).1; simp at hk; omega) hp).symm) | (refine congrArg Value.bool (partiesOk_f fun hw9 => ?_).symm; have wp : ∀ (i : Nat) (p : Party), ho.parties[i]? = some p → PartyH ho i p ∧ PartyI ho p i := hw9; first | omega | (have w6 := (wp k _ hx_y2).1.1; simp_all; done) | (have w6 := (wp k _ hx_y2).1.2.1; omega) | (have w6 := (wp k _ hx_y2).2 j _ (by omega) hx22; omega)))
           · rfl
          ·
           have h27 := of_decide_eq_false bh27
           refine SKIP (OUTN (NEXT (RG (UU 2 [(53, I (wr ((j : Int) + 1)))] (CS 53 (vi (wr ((j : Int) + 1))) (vi ((j + 1 : Nat) : Int)) (vi_cast (by omega) (by omega)) (UU 1 [(5, I ((j + 1 : Nat) : Int))] (ENDOPS (BK (j + 1) [1, 3, 4, 5] 2 [] ⟨by first | omega | (dsimp only; omega), fun m q hm hq => by by_cases h9 : m = j; (subst h9; rw [hx22] at hq; injection hq with hq; subst hq; exact ⟨by omega, by omega, by omega⟩); exact hpi m q (by omega) hq⟩ (by first | omega | (dsimp only; omega))))))))))
         ·
          have h26 := of_decide_eq_false bh26
          refine UU 7 [(91, B false)] (ENDOPS (NEXT (IFF (by kernel_rfl) (SKIP (OUTN (NEXT (RG (UU 2 [(53, I (wr ((j : Int) + 1)))] (CS 53 (vi (wr ((j : Int) + 1))) (vi ((j + 1 : Nat) : Int)) (vi_cast (by omega) (by omega)) (UU 1 [(5, I ((j + 1 : Nat) : Int))] (ENDOPS (BK (j + 1) [1, 3, 4, 5] 2 [] ⟨by first | omega | (dsimp only; omega), fun m q hm hq => by by_cases h9 : m = j; (subst h9; rw [hx22] at hq; injection hq with hq; subst hq; exact ⟨by omega, by omega, by omega⟩); exact hpi m q (by omega) hq⟩ (by first | omega | (dsimp only; omega))))))))))))))
       ·
        have h24 := of_decide_eq_false bh24
        refine UU 14 [(78, B false), (84, B (decide (x21.turn > y2.turn)))] (SP 84 (decide (x21.turn > y2.turn)) (fun bh28 => ?_) (fun bh28 => ?_))
        ·
         have h28 := of_decide_eq_true bh28
         refine UU 7 [(91, B (decide (x21.since < y2.since)))] (NI (decide (x21.since < y2.since)) (fun bh29 => ?_) (fun bh29 => ?_))
         ·
          have h29 := of_decide_eq_true bh29
          refine SEQ (RG (UU 1 [(2, B false)] (ENDOPS (NEXT (RF rfl (.bool false) () [] ?_ ?_)))))
          · (first | (exact congrArg Value.bool (partiesOk_t fun i p hp => hv0 i p (by have := (List.getElem?_eq_some_iff.1 hp).1; simp at hk; omega) hp).symm) | (refine congrArg Value.bool (partiesOk_f fun hw9 => ?_).symm; have wp : ∀ (i : Nat) (p : Party), ho.parties[i]? = some p → PartyH ho i p ∧ PartyI ho p i := hw9; first | omega | (have w6 := (wp k _ hx_y2).1.1; simp_all; done) | (have w6 := (wp k _ hx_y2).1.2.1; omega) | (have w6 := (wp k _ hx_y2).2 j _ (by omega) hx22; omega)))
          · rfl
         ·
          have h29 := of_decide_eq_false bh29
          refine SKIP (OUTN (NEXT (RG (UU 2 [(53, I (wr ((j : Int) + 1)))] (CS 53 (vi (wr ((j : Int) + 1))) (vi ((j + 1 : Nat) : Int)) (vi_cast (by omega) (by omega)) (UU 1 [(5, I ((j + 1 : Nat) : Int))] (ENDOPS (BK (j + 1) [1, 3, 4, 5] 2 [] ⟨by first | omega | (dsimp only; omega), fun m q hm hq => by by_cases h9 : m = j; (subst h9; rw [hx22] at hq; injection hq with hq; subst hq; exact ⟨by omega, by omega, by omega⟩); exact hpi m q (by omega) hq⟩ (by first | omega | (dsimp only; omega))))))))))
        ·
         have h28 := of_decide_eq_false bh28
         refine UU 7 [(91, B false)] (ENDOPS (NEXT (IFF (by kernel_rfl) (SKIP (OUTN (NEXT (RG (UU 2 [(53, I (wr ((j : Int) + 1)))] (CS 53 (vi (wr ((j : Int) + 1))) (vi ((j + 1 : Nat) : Int)) (vi_cast (by omega) (by omega)) (UU 1 [(5, I ((j + 1 : Nat) : Int))] (ENDOPS (BK (j + 1) [1, 3, 4, 5] 2 [] ⟨by first | omega | (dsimp only; omega), fun m q hm hq => by by_cases h9 : m = j; (subst h9; rw [hx22] at hq; injection hq with hq; subst hq; exact ⟨by omega, by omega, by omega⟩); exact hpi m q (by omega) hq⟩ (by first | omega | (dsimp only; omega))))))))))))))
     ·
      have h20 := of_decide_eq_false bh20
      refine EXIT (PASS trivial (PASS trivial (OUT (OUTN (NEXT (RG (UU 2 [(13, I (wr ((k : Int) + 1)))] (CS 13 (vi (wr ((k : Int) + 1))) (vi ((k + 1 : Nat) : Int)) (vi_cast (by omega) (by omega)) (UU 1 [(3, I ((k + 1 : Nat) : Int))] (ENDOPS (BK (k + 1, ys3) [1, 3] 1 [] ⟨hl_y2, hd_y2, (fun i p hi hp => by by_cases h9 : i = k; (subst h9; rw [hx_y2] at hp; injection hp with hp; subst hp; exact ⟨⟨by assumption, by omega, fun h0 q hq => absurd h0 (by omega)⟩, (by have hjk : j = i := (by omega); rw [← hjk]; exact hpi)⟩); exact hv0 i p (by omega) hp)⟩ (by simp))))))))))))
 ·
  have h1 := of_decide_eq_false bh1
  obtain rfl := drop_nil hk (by omega)
  refine EXIT (PASS trivial (PASS trivial (OUT (NEXT (SEQ (RG (UU 1 [(2, B true)] (ENDOPS (NEXT (RF rfl (.bool true) () [] ?_ ?_))))))))))
  · (first | (exact congrArg Value.bool (partiesOk_t fun i p hp => hv0 i p (by have := (List.getElem?_eq_some_iff.1 hp).1; simp at hk; omega) hp).symm) | (refine congrArg Value.bool (partiesOk_f fun hw9 => ?_).symm; have wp : ∀ (i : Nat) (p : Party), ho.parties[i]? = some p → PartyH ho i p ∧ PartyI ho p i := hw9; first | omega | omega))
  · rfl

theorem sJobs_c (W : World) (ho : House) (ho_rules_seats_a : Option Addr) (ho_rules_seats_c : Nat) (hho_rules_seats : Rd intL W ho_rules_seats_a ho.rules.seats) (ho_parties_a : Option Addr) (ho_parties_c : Nat) (hho_parties : Rd partyL W ho_parties_a ho.parties) (ho_cabins_a : Option Addr) (ho_cabins_c : Nat) (hho_cabins : Rd (cabinLx 63 99 114) W ho_cabins_a ho.cabins) (ho_todo_a : Option Addr) (ho_todo_c : Nat) (hho_todo : Rd intL W ho_todo_a ho.todo) (ho_jobs_a : Option Addr) (ho_jobs_c : Nat) (hho_jobs : Rd intL W ho_jobs_a ho.jobs) (hct : ho.todo.length ≤ ho_todo_c) : Spec Tryz.prog W [] 39 #[.agg (hC ho ho_rules_seats_a ho_rules_seats_c ho_parties_a ho_parties_c ho_cabins_a ho_cabins_c ho_todo_a ho_todo_c ho_jobs_a ho_jobs_c).toArray] (RV (.bool (jobsOk ho))) := by
 refine ENTER0 (N := 60) (vs := [.agg (hC ho ho_rules_seats_a ho_rules_seats_c ho_parties_a ho_parties_c ho_cabins_a ho_cabins_c ho_todo_a ho_todo_c ho_jobs_a ho_jobs_c).toArray]) Tryz.func39 rfl rfl (NL rfl) ?_
 have hho_rules_seats_len := hho_rules_seats.len
 have hho_parties_len := hho_parties.len
 have hho_cabins_len := hho_cabins.len
 have hho_todo_len := hho_todo.len
 have hho_jobs_len := hho_jobs.len
 refine SEQ (RG (UL 2 [(1, .p 0 0)] [(30, (hC ho ho_rules_seats_a ho_rules_seats_c ho_parties_a ho_parties_c ho_cabins_a ho_cabins_c ho_todo_a ho_todo_c ho_jobs_a ho_jobs_c))] (ENDOPS (NEXT (SEQ (SEQ (RG (UU 1 [(3, I 0)] (ENDOPS (NEXT (BLOCK (LOOP (ι := Nat × (List Int)) (fun j => [(1, .p 0 0), (3, I (j.1 : Int))]) (fun j => [(30, (hC ho ho_rules_seats_a ho_rules_seats_c ho_parties_a ho_parties_c ho_cabins_a ho_cabins_c ho_todo_a ho_todo_c ho_jobs_a ho_jobs_c))]) (fun j => []) (fun j => j.1 + j.2.length = ho.todo.length ∧ ho.todo.drop j.1 = j.2 ∧ (∀ (i : Nat) (x : Int), i < j.1 → ho.todo[i]? = some x → inB x 0 (wr ((ho.cabins.length : Int) - 1)) = true ∧ ∀ (j : Nat) (z : Int), j < i → ho.todo[j]? = some z → z ≠ x)) (fun j => j.2.length) (0, ho.todo) [1, 3] ⟨by simp, rfl, fun i x hi => absurd hi (Nat.not_lt_zero _)⟩ (by kernel_rfl) rfl rfl ?_))))))))))))
 rintro ⟨k, ys⟩ ⟨hk, hd, hv0⟩
 try dsimp only at hk hd hv0
 refine SEQ (SEQ (RG (UU 5 [(9, B (decide ((k : Int) < (ho.todo.length : Int))))] (NI (decide ((k : Int) < (ho.todo.length : Int))) (fun bh1 => ?_) (fun bh1 => ?_)))))
 ·
  have h1 := of_decide_eq_true bh1
  obtain ⟨y2, ys3, rfl, hx_y2, hd_y2, hl_y2⟩ := drop_cons hd hk (by omega)
  refine SKIP (NEXT (SEQ (BLOCK (SEQ (REGIONQ (by kernel_rfl) (by kernel_rfl) (QU 3 [(13, .v (.slice ho_todo_a ho.todo.length ho_todo_c)), (14, I (k : Int))] (QIX 24 (.tmp 13) (.tmp 14) 15 0 ho_todo_a ho.todo.length ho_todo_c .i64 (k : Int) 3 1 (Rd.some hho_todo (by omega)) (by omega) (by omega) (QLE 3 (.tmp 15) 16 3 ho_todo_a (k * 1) 0 ([vi y2]) (vi y2) (fun w hw => (hho_todo.fr hw.fr).flat hx_y2) (QU 4 [(20, I (wr ((ho.cabins.length : Int) - 1)))] (QCA 37 #[vi y2, vi 0, vi (wr ((ho.cabins.length : Int) - 1))] (some 21) (.bool (inB y2 0 (wr ((ho.cabins.length : Int) - 1)))) (fun w hw => l1In_c w y2 0 (wr ((ho.cabins.length : Int) - 1))) (QU 2 [(23, B (!(inB y2 0 (wr ((ho.cabins.length : Int) - 1)))))] (QSP 23 (!(inB y2 0 (wr ((ho.cabins.length : Int) - 1)))) (fun bh4 => ?_) (fun bh4 => ?_)))))))))))))
  ·
   have h4 := notT bh4
   refine QU 11 [(34, B true)] (QEND rfl (NEXT (IFT (by kernel_rfl) (SEQ (RG (UU 1 [(2, B false)] (ENDOPS (NEXT (RF rfl (.bool false) () [] ?_ ?_)))))))))
   · (first | (exact congrArg Value.bool (jobsOk_eq ⟨fun h9 => ⟨htt, hjj, by simpa using h9⟩, fun h9 => by simpa using h9.2.2⟩)) | (refine congrArg Value.bool (jobsOk_f fun wj => ?_).symm; first | (have w6 := (wj.1 k _ hx_y2).1; simp_all; done) | (exact Exists.elim ((any_take (l := ho.todo) (k := k) (x := y2)).1 (by assumption)) fun j9 h9 => Exists.elim h9 fun z9 h9 => (wj.1 k _ hx_y2).2 j9 z9 h9.1 h9.2.1 h9.2.2) | (have w6 := wj.2.1 _ (List.mem_of_getElem? hx_y2); simp_all; done)))
   · rfl
  ·
   have h4 := notF bh4
   refine QU 3 [(25, .v (.slice ho_todo_a ho.todo.length ho_todo_c)), (26, I (k : Int))] (QCUTH 24 (.tmp 25) (.tmp 26) 27 24 (by kernel_rfl) (NL rfl) ho_todo_a ho.todo.length ho_todo_c .i64 (k : Int) (by kernel_rfl) (by kernel_rfl) 3 intL ho.todo (by kernel_rfl) (by kernel_rfl) (by omega) (by first | omega | (simp only [List.length_append, List.length_cons, List.length_nil, List.length_take, List.length_drop] at *; omega)) rfl (by omega) (fun a5 hsh6 => ?_))
   have hsh6 : ∀ w, Rd intL w ho_todo_a ho.todo → Rd intL w a5 (ho.todo.take k) := hsh6
   have hln7 : (ho.todo.take k).length = k := by first | (simp; done) | (simp; omega)
   refine QCAST (d := 27) (.slice a5 k ho_todo_c) (.slice a5 ((ho.todo.take k).length) ho_todo_c) (by kernel_rfl) (by rw [hln7]) (QU 3 [(29, .v (.slice ho_todo_a ho.todo.length ho_todo_c)), (30, I (k : Int))] (QIX 24 (.tmp 29) (.tmp 30) 31 0 ho_todo_a ho.todo.length ho_todo_c .i64 (k : Int) 3 1 (Rd.some hho_todo (by omega)) (by omega) (by omega) (QLE 3 (.tmp 31) 32 3 ho_todo_a (k * 1) 0 ([vi y2]) (vi y2) (fun w hw => (hho_todo.fr hw.fr).flat hx_y2) (QCA 76 #[.slice a5 ((ho.todo.take k).length) ho_todo_c, vi y2] (some 33) (.bool (((ho.todo.take k)).any (fun e : Int => e == y2))) (fun w hw => l1Has_c w (ho.todo.take k) a5 ho_todo_c (hsh6 _ (hho_todo.fr hw.fr)) y2) (QU 1 [(34, B (((ho.todo.take k)).any (fun e : Int => e == y2)))] (QEND rfl (NEXT (IFK (((ho.todo.take k)).any (fun e : Int => e == y2)) (fun bh8 => ?_) (fun bh8 => ?_)))))))))
   ·
    have h8 := bh8
    refine SEQ (RG (UU 1 [(2, B false)] (ENDOPS (NEXT (RF rfl (.bool false) () [] ?_ ?_)))))
    · (first | (exact congrArg Value.bool (jobsOk_eq ⟨fun h9 => ⟨htt, hjj, by simpa using h9⟩, fun h9 => by simpa using h9.2.2⟩)) | (refine congrArg Value.bool (jobsOk_f fun wj => ?_).symm; first | (have w6 := (wj.1 k _ hx_y2).1; simp_all; done) | (exact Exists.elim ((any_take (l := ho.todo) (k := k) (x := y2)).1 (by assumption)) fun j9 h9 => Exists.elim h9 fun z9 h9 => (wj.1 k _ hx_y2).2 j9 z9 h9.1 h9.2.1 h9.2.2) | (have w6 := wj.2.1 _ (List.mem_of_getElem? hx_y2); simp_all; done)))
    · rfl
   ·
    have h8 := bh8
    refine SKIP (OUTN (NEXT (RG (UU 2 [(11, I (wr ((k : Int) + 1)))] (CS 11 (vi (wr ((k : Int) + 1))) (vi ((k + 1 : Nat) : Int)) (vi_cast (by omega) (by omega)) (UU 1 [(3, I ((k + 1 : Nat) : Int))] (ENDOPS (BK (k + 1, ys3) [1, 3] 1 [] ⟨hl_y2, hd_y2, (fun i x hi hx9 => by by_cases h9 : i = k; (subst h9; rw [hx_y2] at hx9; injection hx9 with hx9; subst hx9; exact ⟨by simp_all, fun j z hj hz he => by have h8 := (any_take (l := ho.todo) (k := i) (x := y2)).2 ⟨j, z, hj, hz, he⟩; simp_all⟩); exact hv0 i x (by omega) hx9)⟩ (by simp)))))))))
 ·
  have h1 := of_decide_eq_false bh1
  obtain rfl := drop_nil hk (by omega)
  have htt : ∀ (i : Nat) (x : Int), ho.todo[i]? = some x → inB x 0 (wr ((ho.cabins.length : Int) - 1)) = true ∧ ∀ (j : Nat) (z : Int), j < i → ho.todo[j]? = some z → z ≠ x := fun i x hx9 => hv0 i x (by have := (List.getElem?_eq_some_iff.1 hx9).1; simp at hk; omega) hx9
  refine EXIT (PASS trivial (PASS trivial (OUT (NEXT (SEQ (SEQ (RG (UU 1 [(4, I 0)] (ENDOPS (NEXT (BLOCK (LOOP (ι := Nat × (List Int)) (fun j => [(1, .p 0 0), (4, I (j.1 : Int))]) (fun j => [(30, (hC ho ho_rules_seats_a ho_rules_seats_c ho_parties_a ho_parties_c ho_cabins_a ho_cabins_c ho_todo_a ho_todo_c ho_jobs_a ho_jobs_c))]) (fun j => []) (fun j => j.1 + j.2.length = ho.jobs.length ∧ ho.jobs.drop j.1 = j.2 ∧ (∀ x ∈ ho.jobs.take j.1, inB x (-1) (wr ((ho.cabins.length : Int) - 1)) = true)) (fun j => j.2.length) (0, ho.jobs) [1, 4] ⟨by simp, rfl, by simp⟩ (by kernel_rfl) rfl rfl ?_))))))))))))
  rintro ⟨k, ys⟩ ⟨hk, hd, hv0⟩
  try dsimp only at hk hd hv0
  refine SEQ (SEQ (RG (UU 5 [(39, B (decide ((k : Int) < (ho.jobs.length : Int))))] (NI (decide ((k : Int) < (ho.jobs.length : Int))) (fun bh9 => ?_) (fun bh9 => ?_)))))
  ·
   have h9 := of_decide_eq_true bh9
   obtain ⟨y10, ys11, rfl, hx_y10, hd_y10, hl_y10⟩ := drop_cons hd hk (by omega)
   refine SKIP (NEXT (SEQ (BLOCK (SEQ (REGIONQ (by kernel_rfl) (by kernel_rfl) (QU 3 [(43, .v (.slice ho_jobs_a ho.jobs.length ho_jobs_c)), (44, I (k : Int))] (QIX 24 (.tmp 43) (.tmp 44) 45 0 ho_jobs_a ho.jobs.length ho_jobs_c .i64 (k : Int) 3 1 (Rd.some hho_jobs (by omega)) (by omega) (by omega) (QLE 3 (.tmp 45) 46 3 ho_jobs_a (k * 1) 0 ([vi y10]) (vi y10) (fun w hw => (hho_jobs.fr hw.fr).flat hx_y10) (QU 4 [(50, I (wr ((ho.cabins.length : Int) - 1)))] (QCA 37 #[vi y10, vi (-1), vi (wr ((ho.cabins.length : Int) - 1))] (some 51) (.bool (inB y10 (-1) (wr ((ho.cabins.length : Int) - 1)))) (fun w hw => l1In_c w y10 (-1) (wr ((ho.cabins.length : Int) - 1))) (QU 1 [(52, B (!(inB y10 (-1) (wr ((ho.cabins.length : Int) - 1)))))] (QEND rfl (NEXT (IFK (!(inB y10 (-1) (wr ((ho.cabins.length : Int) - 1)))) (fun bh12 => ?_) (fun bh12 => ?_)))))))))))))))
   ·
    have h12 := notT bh12
    refine SEQ (RG (UU 1 [(2, B false)] (ENDOPS (NEXT (RF rfl (.bool false) () [] ?_ ?_)))))
    · (first | (exact congrArg Value.bool (jobsOk_eq ⟨fun h9 => ⟨htt, hjj, by simpa using h9⟩, fun h9 => by simpa using h9.2.2⟩)) | (refine congrArg Value.bool (jobsOk_f fun wj => ?_).symm; first | (have w6 := (wj.1 k _ hx_y10).1; simp_all; done) | (exact Exists.elim ((any_take (l := ho.todo) (k := k) (x := y10)).1 (by assumption)) fun j9 h9 => Exists.elim h9 fun z9 h9 => (wj.1 k _ hx_y10).2 j9 z9 h9.1 h9.2.1 h9.2.2) | (have w6 := wj.2.1 _ (List.mem_of_getElem? hx_y10); simp_all; done)))
    · rfl
   ·
    have h12 := notF bh12
    refine SKIP (OUTN (NEXT (RG (UU 2 [(41, I (wr ((k : Int) + 1)))] (CS 41 (vi (wr ((k : Int) + 1))) (vi ((k + 1 : Nat) : Int)) (vi_cast (by omega) (by omega)) (UU 1 [(4, I ((k + 1 : Nat) : Int))] (ENDOPS (BK (k + 1, ys11) [1, 4] 1 [] ⟨hl_y10, hd_y10, (by rw [List.take_add_one, hx_y10]; intro x hx9; rcases List.mem_append.1 hx9 with h8 | h8; exact hv0 x h8; (simp at h8; subst h8; assumption))⟩ (by simp)))))))))
  ·
   have h9 := of_decide_eq_false bh9
   obtain rfl := drop_nil hk (by omega)
   have hjj : ∀ x ∈ ho.jobs, inB x (-1) (wr ((ho.cabins.length : Int) - 1)) = true := (by rw [List.take_of_length_le (by simp at hk; omega)] at hv0; exact hv0)
   refine EXIT (PASS trivial (PASS trivial (OUT (NEXT (SEQ (RG (UU 8 [(2, B ((ho.jobs.length : Int) == ho.rules.crew))] (ENDOPS (NEXT (RF rfl (.bool ((ho.jobs.length : Int) == ho.rules.crew)) () [] ?_ ?_))))))))))
   · (first | (exact congrArg Value.bool (jobsOk_eq ⟨fun h9 => ⟨htt, hjj, by simpa using h9⟩, fun h9 => by simpa using h9.2.2⟩)) | (refine congrArg Value.bool (jobsOk_f fun wj => ?_).symm; first | omega))
   · rfl

end SX
end Go.Proofs.YtcbpmjfjdjpalaaGreat
