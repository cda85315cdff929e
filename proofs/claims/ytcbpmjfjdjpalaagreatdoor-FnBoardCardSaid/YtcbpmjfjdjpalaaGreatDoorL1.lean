/- Walks, printed by program. -/
import Derived.Test.YtcbpmjfjdjpalaaGreatDoorMdlx
import Derived.Test.YtcbpmjfjdjpalaaGreatDoorN1
import Derived.Test.YtcbpmjfjdjpalaaGreatDoorN2
import Derived.Test.YtcbpmjfjdjpalaaGreatDoorN3
import Derived.Test.YtcbpmjfjdjpalaaGreatDoorSxq
import Derived.Test.YtcbpmjfjdjpalaaGreatDoorMdll
namespace Go.Proofs.YtcbpmjfjdjpalaaGreatDoor
namespace SX
open Go Go.RowKit
set_option linter.unusedVariables false
set_option linter.unusedSimpArgs false
set_option maxRecDepth 10000
set_option maxHeartbeats 400000
theorem fnBoard_c (W : World) (code : List UInt8) (code_a : Option Addr) (code_c : Nat) (hcode : Rd byteL W code_a code) (htab : Tab Tryz.prog W) : Spec Tryz.prog W [] 3 #[.slice code_a code.length code_c] (RV (.bool true)) := by
 refine ENTER0 (N := 92) (vs := [.slice code_a code.length code_c]) Tryz.func3 rfl rfl (NL rfl) ?_
 have hcode_len := hcode.len
 refine SEQ (RG (UU 1 [] (ENDOPS (NEXT (SEQ (SEQ (RG (UU 1 [(10, .v (.slice code_a code.length code_c))] (OPC (CA 4 #[.slice code_a code.length code_c] (some 11) (RV (.bool (decide ((code.length : Int) > 1048576)))) (fun w hw => big_c w code code_a code_c (hcode.fr hw.fr)) ?_))))))))))
 rintro ⟨⟩
 refine NI (decide ((code.length : Int) > 1048576)) (fun bh1 => ?_) (fun bh1 => ?_)
 ·
  have h1 := of_decide_eq_true bh1
  refine SEQ (RG (UU 1 [(2, B true)] (ENDOPS (NEXT (RF rfl (.bool true) () [] ?_ ?_)))))
  · (first | rfl | (show Value.bool _ = Value.bool true; congr 1; rw [boardLine_no (hasCab_f1 (by assumption))]; rfl) | (show Value.bool _ = Value.bool true; congr 1; rw [boardLine_no (hasCab_f2 (by assumption))]; rfl) | (show Value.bool _ = Value.bool true; congr 1; rw [boardLine_no (hasCab_f3 (by assumption) (by assumption))]; rfl) | (exfalso; omega))
  · rfl
 ·
  have h1 := of_decide_eq_false bh1
  refine SKIP (NEXT (SEQ (RG (UU 1 [(13, .v (.slice code_a code.length code_c))] (OPC (CA 5 #[.slice code_a code.length code_c] (some 14) (⟨{q : (HH × HH × HH × HH × HH) × (House × Int) // (fun x : House × Int => HouseSz x.1) q.2}, fun q => .tuple #[.agg (hC q.1.2.1 q.1.1.1.1 q.1.1.1.2 q.1.1.2.1.1 q.1.1.2.1.2 q.1.1.2.2.1.1 q.1.1.2.2.1.2 q.1.1.2.2.2.1.1 q.1.1.2.2.2.1.2 q.1.1.2.2.2.2.1 q.1.1.2.2.2.2.2).toArray, vi q.1.2.2], fun q => [slA 3 intL (.slice q.1.1.1.1 q.1.2.1.rules.seats.length q.1.1.1.2) q.1.2.1.rules.seats, slA 50 partyL (.slice q.1.1.2.1.1 q.1.2.1.parties.length q.1.1.2.1.2) q.1.2.1.parties, slA 42 (cabinLx 47 81 99) (.slice q.1.1.2.2.1.1 q.1.2.1.cabins.length q.1.1.2.2.1.2) q.1.2.1.cabins, slA 3 intL (.slice q.1.1.2.2.2.1.1 q.1.2.1.todo.length q.1.1.2.2.2.1.2) q.1.2.1.todo, slA 3 intL (.slice q.1.1.2.2.2.2.1 q.1.2.1.jobs.length q.1.1.2.2.2.2.2) q.1.2.1.jobs]⟩) (fun w hw => drawBoardLine_c w code code_a code_c (hcode.fr hw.fr)) ?_))))))
  rintro ⟨⟨⟨⟨a4, c5⟩, ⟨a6, c7⟩, ⟨a8, c9⟩, ⟨a10, c11⟩, ⟨a12, c13⟩⟩, m2⟩, hm3⟩
  try dsimp only at hm3
  refine UL 6 [(3, .p 0 0), (4, I m2.2)] [(30, (hC m2.1 a4 c5 a6 c7 a8 c9 a10 c11 a12 c13))] (NR (UU 2 [(17, .v (.agg (hC m2.1 a4 c5 a6 c7 a8 c9 a10 c11 a12 c13).toArray)), (18, I m2.2)] (FACT (m2.1.rules.seats.length ≤ c5) (fun w hw => SlO.capE (hw.own 0 rfl)) (fun hcap14 => (FACT (m2.1.parties.length ≤ c7) (fun w hw => SlO.capE (hw.own 1 rfl)) (fun hcap15 => (FACT (m2.1.cabins.length ≤ c9) (fun w hw => SlO.capE (hw.own 2 rfl)) (fun hcap16 => (FACT (m2.1.todo.length ≤ c11) (fun w hw => SlO.capE (hw.own 3 rfl)) (fun hcap17 => (FACT (m2.1.jobs.length ≤ c13) (fun w hw => SlO.capE (hw.own 4 rfl)) (fun hcap18 => (OPC (CA 6 #[.agg (hC m2.1 a4 c5 a6 c7 a8 c9 a10 c11 a12 c13).toArray, vi m2.2] (some 19) (RV (.string (bs (boardLine m2.1 m2.2)))) (fun w hw => iBoardLine_c w m2.1 a4 c5 (hw.rdO 0 rfl) a6 c7 (hw.rdO 1 rfl) a8 c9 (hw.rdO 2 rfl) a10 c11 (hw.rdO 3 rfl) a12 c13 (hw.rdO 4 rfl) m2.2 (by assumption) (by first | assumption | omega | (dsimp only; omega) | (simp only [List.length_append, List.length_cons, List.length_nil] at *; omega)) (by first | assumption | omega | (dsimp only; omega) | (simp only [List.length_append, List.length_cons, List.length_nil] at *; omega)) (htab.fr hw.fr)) ?_))))))))))))))
  rintro ⟨⟩
  have hr19 := boardLine_len m2.1 m2.2
  refine UU 1 [(5, .v (.string (bs (boardLine m2.1 m2.2))))] (ENDOPS (NEXT (SEQ (SEQ (RG (UU 1 [(20, .v (.agg (hC m2.1 a4 c5 a6 c7 a8 c9 a10 c11 a12 c13).toArray))] (OPC (CA 7 #[.agg (hC m2.1 a4 c5 a6 c7 a8 c9 a10 c11 a12 c13).toArray] (some 21) (RV (.bool (houseOk m2.1))) (fun w hw => sHouseOk_c w m2.1 a4 c5 (hw.rdO 0 rfl) a6 c7 (hw.rdO 1 rfl) a8 c9 (hw.rdO 2 rfl) a10 c11 (hw.rdO 3 rfl) a12 c13 (hw.rdO 4 rfl) (by assumption) (by first | assumption | omega | (dsimp only; omega) | (simp only [List.length_append, List.length_cons, List.length_nil] at *; omega)) (by first | assumption | omega | (dsimp only; omega) | (simp only [List.length_append, List.length_cons, List.length_nil] at *; omega))) ?_))))))))
  rintro ⟨⟩
  refine UU 2 [(23, B (!(houseOk m2.1)))] (SP 23 (!(houseOk m2.1)) (fun bh20 => ?_) (fun bh20 => ?_))
  ·
   have h20 := notT bh20
   refine UU 10 [(33, B true)] (ENDOPS (NEXT (IFT (by kernel_rfl) (SEQ (RG (UU 1 [(34, .v (.string (bs (boardLine m2.1 m2.2))))] (OPC (RUNV (.binOp .eql 9 (.tmp 34) (.const (.string (bs ([])))) 9) 35 4 (by kernel_rfl) (NL rfl) (.bool ((boardLine m2.1 m2.2) == ([]))) (runs_seql (a := boardLine m2.1 m2.2) (b := []) (by kernel_rfl) (by kernel_rfl)) (UU 1 [(2, B ((boardLine m2.1 m2.2) == ([])))] (ENDOPS (NEXT (RF rfl (.bool ((boardLine m2.1 m2.2) == ([]))) () [] ?_ ?_))))))))))))
   · (first | rfl | (show Value.bool _ = Value.bool true; congr 1; rw [boardLine_no (hasCab_f1 (by assumption))]; rfl) | (show Value.bool _ = Value.bool true; congr 1; rw [boardLine_no (hasCab_f2 (by assumption))]; rfl) | (show Value.bool _ = Value.bool true; congr 1; rw [boardLine_no (hasCab_f3 (by assumption) (by assumption))]; rfl) | (exfalso; omega))
   · rfl
  ·
   have h20 := notF bh20
   refine UU 4 [(27, B (decide (m2.2 < 0)))] (SP 27 (decide (m2.2 < 0)) (fun bh21 => ?_) (fun bh21 => ?_))
   ·
    have h21 := of_decide_eq_true bh21
    refine UU 6 [(33, B true)] (ENDOPS (NEXT (IFT (by kernel_rfl) (SEQ (RG (UU 1 [(34, .v (.string (bs (boardLine m2.1 m2.2))))] (OPC (RUNV (.binOp .eql 9 (.tmp 34) (.const (.string (bs ([])))) 9) 35 4 (by kernel_rfl) (NL rfl) (.bool ((boardLine m2.1 m2.2) == ([]))) (runs_seql (a := boardLine m2.1 m2.2) (b := []) (by kernel_rfl) (by kernel_rfl)) (UU 1 [(2, B ((boardLine m2.1 m2.2) == ([])))] (ENDOPS (NEXT (RF rfl (.bool ((boardLine m2.1 m2.2) == ([]))) () [] ?_ ?_))))))))))))
    · (first | rfl | (show Value.bool _ = Value.bool true; congr 1; rw [boardLine_no (hasCab_f1 (by assumption))]; rfl) | (show Value.bool _ = Value.bool true; congr 1; rw [boardLine_no (hasCab_f2 (by assumption))]; rfl) | (show Value.bool _ = Value.bool true; congr 1; rw [boardLine_no (hasCab_f3 (by assumption) (by assumption))]; rfl) | (exfalso; omega))
    · rfl
   ·
    have h21 := of_decide_eq_false bh21
    refine UU 6 [(33, B (decide (m2.2 ≥ (m2.1.cabins.length : Int))))] (NI (decide (m2.2 ≥ (m2.1.cabins.length : Int))) (fun bh22 => ?_) (fun bh22 => ?_))
    ·
     have h22 := of_decide_eq_true bh22
     refine SEQ (RG (UU 1 [(34, .v (.string (bs (boardLine m2.1 m2.2))))] (OPC (RUNV (.binOp .eql 9 (.tmp 34) (.const (.string (bs ([])))) 9) 35 4 (by kernel_rfl) (NL rfl) (.bool ((boardLine m2.1 m2.2) == ([]))) (runs_seql (a := boardLine m2.1 m2.2) (b := []) (by kernel_rfl) (by kernel_rfl)) (UU 1 [(2, B ((boardLine m2.1 m2.2) == ([])))] (ENDOPS (NEXT (RF rfl (.bool ((boardLine m2.1 m2.2) == ([]))) () [] ?_ ?_))))))))
     · (first | rfl | (show Value.bool _ = Value.bool true; congr 1; rw [boardLine_no (hasCab_f1 (by assumption))]; rfl) | (show Value.bool _ = Value.bool true; congr 1; rw [boardLine_no (hasCab_f2 (by assumption))]; rfl) | (show Value.bool _ = Value.bool true; congr 1; rw [boardLine_no (hasCab_f3 (by assumption) (by assumption))]; rfl) | (exfalso; omega))
     · rfl
    ·
     have h22 := of_decide_eq_false bh22
     have hcb9 := hasCab_t (h := m2.1) (cabin := m2.2) (by assumption) (by assumption) (by omega) (by omega); have hok9 := hasCab_ok hcb9
     refine SKIP (NEXT (SEQ (RG (UU 3 [(37, .v (.slice a8 m2.1.cabins.length c9)), (38, I m2.2)] ?_))))
     obtain ⟨x23, hx24⟩ : ∃ y, m2.1.cabins[m2.2.toNat]? = some y := ⟨_, List.getElem?_eq_getElem (by omega)⟩
     refine FACT (a8.isSome = true) (fun w hw => SlO.isS (hw.own 2 rfl) (by first | omega | (dsimp only; omega))) (fun hs25 => (OPC (IX 28 (.tmp 37) (.tmp 38) 39 0 a8 m2.1.cabins.length c9 .i64 m2.2 42 7 hs25 (by omega) (by omega) (UU 1 [(40, .e a8 (m2.2.toNat * 7) 5)] (PIN 2 _ rfl (fun cells26 => (FACT (∃ z1 z2 z3 z4, (cells26.drop (m2.2.toNat * 7)).take 7 = [vi x23.seats.total, vi x23.seats.free, vi x23.seats.held, vi x23.seats.sold, vi x23.seats.tied, .slice z1 x23.row.length z2, .slice z3 x23.wheel.spoke.length z4] ∧ x23.row.length ≤ z2 ∧ x23.wheel.spoke.length ≤ z4) (fun w hw => slX.cabin (hw.own 4 rfl) hx24) (fun ⟨a27, c28, a30, c31, hc29, hc29c, hc29d⟩ => (OPC (LE 37 (.tmp 40) 41 37 a8 (m2.2.toNat * 7) 5 ([vi x23.seats.total, vi x23.seats.free, vi x23.seats.held, vi x23.seats.sold, vi x23.seats.tied, .slice a27 x23.row.length c28, .slice a30 x23.wheel.spoke.length c31]) (.slice a27 x23.row.length c28) (fun w hw => (hc29 ▸ slX.elem (hw.own 4 rfl) hx24)) (UU 1 [(6, .v (.slice a27 x23.row.length c28))] (ENDOPS (NEXT (SEQ (SEQ (RG (UU 3 [(44, B ((x23.row.length : Int) == 0))] (NI ((x23.row.length : Int) == 0) (fun bh32 => ?_) (fun bh32 => ?_)))))))))))))))))))
     ·
      have h32 := eq_of_beq bh32
      refine SEQ (RG (UU 1 [(45, .v (.string (bs (boardLine m2.1 m2.2))))] (OPC (RUNV (.binOp .eql 9 (.tmp 45) (.const (.string (bs ([45])))) 9) 46 4 (by kernel_rfl) (NL rfl) (.bool ((boardLine m2.1 m2.2) == ([45]))) (runs_seql (a := boardLine m2.1 m2.2) (b := [45]) (by kernel_rfl) (by kernel_rfl)) (UU 1 [(2, B ((boardLine m2.1 m2.2) == ([45])))] (ENDOPS (NEXT (RF rfl (.bool ((boardLine m2.1 m2.2) == ([45]))) () [] ?_ ?_))))))))
      · (first | rfl | (show Value.bool _ = Value.bool true; congr 1; rw [boardLine_no (hasCab_f1 (by assumption))]; rfl) | (show Value.bool _ = Value.bool true; congr 1; rw [boardLine_no (hasCab_f2 (by assumption))]; rfl) | (show Value.bool _ = Value.bool true; congr 1; rw [boardLine_no (hasCab_f3 (by assumption) (by assumption))]; rfl) | (show Value.bool _ = Value.bool true; congr 1; rw [boardLine_nil hcb9 hx24 (List.eq_nil_of_length_eq_zero (by omega))]; rfl) | (show Value.bool _ = Value.bool true; congr 1; rw [hbl]; simp; done) | (exfalso; omega))
      · rfl
     ·
      have h32 := ne_of_beq_false bh32
      refine SKIP (NEXT (SEQ (RG (UU 1 [(47, .v (.string (bs (boardLine m2.1 m2.2))))] (OPC (CA 8 #[.string (bs (boardLine m2.1 m2.2)), .int .u8 32] (some 48) (⟨HH, fun p => .slice p.1 ((parts (boardLine m2.1 m2.2) 32).length) p.2, fun p => [slA 9 strL (.slice p.1 (parts (boardLine m2.1 m2.2) 32).length p.2) (parts (boardLine m2.1 m2.2) 32)]⟩) (fun w hw => sParts_c w (boardLine m2.1 m2.2) 32 (by first | assumption | omega)) ?_))))))
      rintro ⟨a33, c34⟩
      have hr35 := parts_len (boardLine m2.1 m2.2) 32
      refine UU 1 [(7, .v (.slice a33 ((parts (boardLine m2.1 m2.2) 32).length) c34))] (ENDOPS (NEXT (SEQ (SEQ (RG (UU 1 [(8, I 0)] (ENDOPS (NEXT (BLOCK (LOOP (ι := Nat × (List (List UInt8))) (fun j => [(3, .p 0 0), (6, .v (.slice a27 x23.row.length c28)), (7, .v (.slice a33 ((parts (boardLine m2.1 m2.2) 32).length) c34)), (8, I (j.1 : Int))]) (fun j => [(30, (hC m2.1 a4 c5 a6 c7 a8 c9 a10 c11 a12 c13))]) (fun j => [slA 3 intL (.slice a4 m2.1.rules.seats.length c5) m2.1.rules.seats, slA 50 partyL (.slice a6 m2.1.parties.length c7) m2.1.parties, slA 3 intL (.slice a10 m2.1.todo.length c11) m2.1.todo, slA 3 intL (.slice a12 m2.1.jobs.length c13) m2.1.jobs, slX 42 (cabinLx 47 81 99) (.slice a8 m2.1.cabins.length c9) m2.1.cabins cells26, slA 9 strL (.slice a33 (parts (boardLine m2.1 m2.2) 32).length c34) (parts (boardLine m2.1 m2.2) 32)]) (fun j => j.1 + j.2.length = (parts (boardLine m2.1 m2.2) 32).length ∧ (parts (boardLine m2.1 m2.2) 32).drop j.1 = j.2) (fun j => j.2.length) (0, (parts (boardLine m2.1 m2.2) 32)) [3, 6, 7, 8] ⟨by simp, rfl⟩ (by kernel_rfl) rfl rfl ?_))))))))))
      rintro ⟨k, ys⟩ ⟨hk, hd⟩
      try dsimp only at hk hd
      have hbl := board_plen hcb9 hx24 (by omega)
      refine SEQ (SEQ (RG (UU 4 [(52, B (decide ((k : Int) < (((parts (boardLine m2.1 m2.2) 32).length : Nat) : Int))))] (NI (decide ((k : Int) < (((parts (boardLine m2.1 m2.2) 32).length : Nat) : Int))) (fun bh36 => ?_) (fun bh36 => ?_)))))
      ·
       have h36 := of_decide_eq_true bh36
       obtain ⟨y37, ys38, rfl, hx_y37, hd_y37, hl_y37⟩ := drop_cons hd hk (by omega)
       refine SKIP (NEXT (SEQ (BLOCK (SEQ (RG (UU 1 [(9, .v (.string (bs ([]))))] (ENDOPS (NEXT (SEQ (SEQ (RG (UU 4 [(58, B (decide ((k : Int) < (x23.row.length : Int))))] (NI (decide ((k : Int) < (x23.row.length : Int))) (fun bh39 => ?_) (fun bh39 => ?_))))))))))))))
       ·
        have h39 := of_decide_eq_true bh39
        refine SEQ (RG (UU 2 [(59, .v (.slice a27 x23.row.length c28)), (60, I (k : Int))] ?_))
        obtain ⟨x40, hx41⟩ : ∃ y, x23.row[k]? = some y := ⟨_, List.getElem?_eq_getElem (by omega)⟩
        have hrpx40 := row_party hok9 hx24 (List.mem_of_getElem? hx41); have halx40 := atId_lt m2.1.parties x40.id
        refine FACT (a27.isSome = true) (fun w hw => Rd.some (slX.cabinRow (hw.own 4 rfl) hx24 hc29) (by omega)) (fun hs42 => (OPC (IX 37 (.tmp 59) (.tmp 60) 61 0 a27 x23.row.length c28 .i64 (k : Int) 47 4 hs42 (by omega) (by omega) (UU 1 [(62, .e a27 (k * 4) 2)] (OPC (LE 3 (.tmp 62) 63 3 a27 (k * 4) 2 (entryE x40) (vi x40.id) (fun w hw => (slX.cabinRow (hw.own 4 rfl) hx24 hc29).flat hx41) (OPC (CA 9 #[vi x40.id] (some 64) (RV (.string (bs (Lib.itoa x40.id)))) (fun w hw => sDigits_c w x40.id (by first | assumption | exact wr_range _ | (unfold i64R at *; omega) | (simp only [i64R] at *; omega))) ?_))))))))
        rintro ⟨⟩
        have hr43 := itoa_len (n := x40.id) (by first | assumption | exact wr_range _ | (unfold i64R at *; omega) | (simp only [i64R] at *; omega))
        refine UU 1 [(9, .v (.string (bs (Lib.itoa x40.id))))] (ENDOPS (NEXT (SEQ ?_)))
        refine FACT (a27.isSome = true) (fun w hw => Rd.some (slX.cabinRow (hw.own 4 rfl) hx24 hc29) (by omega)) (fun hs44 => (FACT (a6.isSome = true) (fun w hw => SlO.isS (hw.own 1 rfl) (by first | omega | (dsimp only; omega))) (fun hs45 => (REGIONQ (by kernel_rfl) (by kernel_rfl) (QU 5 [(66, .v (.slice a6 m2.1.parties.length c7)), (67, .v (.agg (hC m2.1 a4 c5 a6 c7 a8 c9 a10 c11 a12 c13).toArray)), (68, .v (.slice a27 x23.row.length c28)), (69, I (k : Int))] (QIX 37 (.tmp 68) (.tmp 69) 70 0 a27 x23.row.length c28 .i64 (k : Int) 47 4 hs44 (by omega) (by omega) (QU 1 [(71, .e a27 (k * 4) 2)] (QLE 3 (.tmp 71) 72 3 a27 (k * 4) 2 (entryE x40) (vi x40.id) (fun w hw => (slX.cabinRow (hw.own 4 rfl) hx24 hc29).flat hx41) ?_))))))))
        have hr46 := atId_lt m2.1.parties x40.id
        refine QCA 11 #[.agg (hC m2.1 a4 c5 a6 c7 a8 c9 a10 c11 a12 c13).toArray, vi x40.id] (some 73) (vi (atId m2.1.parties x40.id)) (fun w hw => sPartyAt_c w m2.1 a4 c5 (hw.rdO 0 rfl) a6 c7 (hw.rdO 1 rfl) a8 c9 (slX.rdA (hw.own 4 rfl)) a10 c11 (hw.rdO 2 rfl) a12 c13 (hw.rdO 3 rfl) x40.id) ?_
        obtain ⟨x47, hx48⟩ : ∃ y, m2.1.parties[(atId m2.1.parties x40.id).toNat]? = some y := ⟨_, List.getElem?_eq_getElem (by omega)⟩
        refine QIX 27 (.tmp 66) (.tmp 73) 74 0 a6 m2.1.parties.length c7 .i64 (atId m2.1.parties x40.id) 50 10 hs45 (by omega) (by omega) (QLE 50 (.tmp 74) 75 50 a6 ((atId m2.1.parties x40.id).toNat * 10) 0 (partyE x47) (.agg (partyE x47).toArray) (fun w hw => (hw.rdO 1 rfl).flat hx48) (QU 2 [(77, I m2.1.now)] (QCA 10 #[.agg #[vi x47.id, vi x47.cabin, vi x47.from', vi x47.size, vi x47.tier, vi x47.since, vi x47.turn, vi x47.state, vi x47.until', vi x47.asked], vi m2.1.now] (some 78) (.bool (restingB x47 m2.1.now)) (fun w hw => sResting_c w x47 m2.1.now) (QEND rfl (NEXT (IFK (restingB x47 m2.1.now) (fun bh49 => ?_) (fun bh49 => ?_)))))))
        ·
         have h49 := bh49
         refine RG (UU 1 [(79, .v (.string (bs (Lib.itoa x40.id))))] (OPC (RUNV (.binOp .add 9 (.tmp 79) (.const (.string (bs ([42])))) 9) 80 9 (by kernel_rfl) (NL rfl) (.string (bs ((Lib.itoa x40.id) ++ ([42])))) (runs_scat (a := Lib.itoa x40.id) (b := [42]) (by kernel_rfl) (by kernel_rfl) (by first | omega | (simp only [List.length_append, List.length_cons, List.length_nil, List.length_take, List.length_drop] at *; omega))) (UU 1 [(9, .v (.string (bs ((Lib.itoa x40.id) ++ ([42])))))] (NR (UU 2 [(81, .v (.slice a33 ((parts (boardLine m2.1 m2.2) 32).length) c34)), (82, I (k : Int))] (FACT (a33.isSome = true) (fun w hw => SlO.isS (hw.own 5 rfl) (by first | omega | (dsimp only; omega))) (fun hs50 => (OPC (IX 43 (.tmp 81) (.tmp 82) 83 0 a33 ((parts (boardLine m2.1 m2.2) 32).length) c34 .i64 (k : Int) 9 1 hs50 (by omega) (by omega) (OPC (LE 9 (.tmp 83) 84 9 a33 (k * 1) 0 ([.string (bs y37)]) (.string (bs y37)) (fun w hw => (hw.rdO 5 rfl).flat hx_y37) (UU 1 [(85, .v (.string (bs ((Lib.itoa x40.id) ++ ([42])))))] (OPC (RUNV (.binOp .neq 9 (.tmp 84) (.tmp 85) 9) 86 4 (by kernel_rfl) (NL rfl) (.bool (!(y37 == ((Lib.itoa x40.id) ++ ([42]))))) (runs_sneq (a := y37) (b := (Lib.itoa x40.id) ++ ([42])) (by kernel_rfl) (by kernel_rfl)) (NI (!(y37 == ((Lib.itoa x40.id) ++ ([42])))) (fun bh51 => ?_) (fun bh51 => ?_)))))))))))))))))
         ·
          have h51 := ne_of_beq_false (notT bh51)
          refine SEQ (RG (UU 1 [(2, B false)] (ENDOPS (NEXT (RF rfl (.bool false) () [] ?_ ?_)))))
          · (first | rfl | (show Value.bool _ = Value.bool true; congr 1; rw [boardLine_no (hasCab_f1 (by assumption))]; rfl) | (show Value.bool _ = Value.bool true; congr 1; rw [boardLine_no (hasCab_f2 (by assumption))]; rfl) | (show Value.bool _ = Value.bool true; congr 1; rw [boardLine_no (hasCab_f3 (by assumption) (by assumption))]; rfl) | (show Value.bool _ = Value.bool true; congr 1; rw [boardLine_nil hcb9 hx24 (List.eq_nil_of_length_eq_zero (by omega))]; rfl) | (show Value.bool _ = Value.bool true; congr 1; rw [hbl]; simp; done) | (exfalso; have h9 := board_at hcb9 hx24 hx_y37 hx41; have h8 := starB_of (id := x40.id) hx48; first | (rw [partB_t (h8.trans (by assumption))] at h9; exact absurd h9 (by assumption)) | (rw [partB_f (h8.trans (by assumption))] at h9; exact absurd h9 (by assumption))) | (exfalso; omega))
          · rfl
         ·
          have h51 := eq_of_beq (notF bh51)
          refine SKIP (OUTN (NEXT (RG (UU 2 [(54, I (wr ((k : Int) + 1)))] (CS 54 (vi (wr ((k : Int) + 1))) (vi ((k + 1 : Nat) : Int)) (vi_cast (by omega) (by omega)) (UU 1 [(8, I ((k + 1 : Nat) : Int))] (ENDOPS (BK (k + 1, ys38) [3, 6, 7, 8] 1 [0, 0, 0, 0, 0, 0] ⟨hl_y37, hd_y37⟩ (by simp)))))))))
        ·
         have h49 := bh49
         refine SKIP (NEXT (SEQ (RG (UU 2 [(81, .v (.slice a33 ((parts (boardLine m2.1 m2.2) 32).length) c34)), (82, I (k : Int))] (FACT (a33.isSome = true) (fun w hw => SlO.isS (hw.own 5 rfl) (by first | omega | (dsimp only; omega))) (fun hs52 => (OPC (IX 43 (.tmp 81) (.tmp 82) 83 0 a33 ((parts (boardLine m2.1 m2.2) 32).length) c34 .i64 (k : Int) 9 1 hs52 (by omega) (by omega) (OPC (LE 9 (.tmp 83) 84 9 a33 (k * 1) 0 ([.string (bs y37)]) (.string (bs y37)) (fun w hw => (hw.rdO 5 rfl).flat hx_y37) (UU 1 [(85, .v (.string (bs (Lib.itoa x40.id))))] (OPC (RUNV (.binOp .neq 9 (.tmp 84) (.tmp 85) 9) 86 4 (by kernel_rfl) (NL rfl) (.bool (!(y37 == (Lib.itoa x40.id)))) (runs_sneq (a := y37) (b := Lib.itoa x40.id) (by kernel_rfl) (by kernel_rfl)) (NI (!(y37 == (Lib.itoa x40.id))) (fun bh53 => ?_) (fun bh53 => ?_)))))))))))))))
         ·
          have h53 := ne_of_beq_false (notT bh53)
          refine SEQ (RG (UU 1 [(2, B false)] (ENDOPS (NEXT (RF rfl (.bool false) () [] ?_ ?_)))))
          · (first | rfl | (show Value.bool _ = Value.bool true; congr 1; rw [boardLine_no (hasCab_f1 (by assumption))]; rfl) | (show Value.bool _ = Value.bool true; congr 1; rw [boardLine_no (hasCab_f2 (by assumption))]; rfl) | (show Value.bool _ = Value.bool true; congr 1; rw [boardLine_no (hasCab_f3 (by assumption) (by assumption))]; rfl) | (show Value.bool _ = Value.bool true; congr 1; rw [boardLine_nil hcb9 hx24 (List.eq_nil_of_length_eq_zero (by omega))]; rfl) | (show Value.bool _ = Value.bool true; congr 1; rw [hbl]; simp; done) | (exfalso; have h9 := board_at hcb9 hx24 hx_y37 hx41; have h8 := starB_of (id := x40.id) hx48; first | (rw [partB_t (h8.trans (by assumption))] at h9; exact absurd h9 (by assumption)) | (rw [partB_f (h8.trans (by assumption))] at h9; exact absurd h9 (by assumption))) | (exfalso; omega))
          · rfl
         ·
          have h53 := eq_of_beq (notF bh53)
          refine SKIP (OUTN (NEXT (RG (UU 2 [(54, I (wr ((k : Int) + 1)))] (CS 54 (vi (wr ((k : Int) + 1))) (vi ((k + 1 : Nat) : Int)) (vi_cast (by omega) (by omega)) (UU 1 [(8, I ((k + 1 : Nat) : Int))] (ENDOPS (BK (k + 1, ys38) [3, 6, 7, 8] 1 [0, 0, 0, 0, 0, 0] ⟨hl_y37, hd_y37⟩ (by simp)))))))))
       ·
        have h39 := of_decide_eq_false bh39
        refine SKIP (NEXT (SEQ (RG (UU 2 [(81, .v (.slice a33 ((parts (boardLine m2.1 m2.2) 32).length) c34)), (82, I (k : Int))] (FACT (a33.isSome = true) (fun w hw => SlO.isS (hw.own 5 rfl) (by first | omega | (dsimp only; omega))) (fun hs54 => (OPC (IX 43 (.tmp 81) (.tmp 82) 83 0 a33 ((parts (boardLine m2.1 m2.2) 32).length) c34 .i64 (k : Int) 9 1 hs54 (by omega) (by omega) (OPC (LE 9 (.tmp 83) 84 9 a33 (k * 1) 0 ([.string (bs y37)]) (.string (bs y37)) (fun w hw => (hw.rdO 5 rfl).flat hx_y37) (UU 1 [(85, .v (.string (bs ([]))))] (OPC (RUNV (.binOp .neq 9 (.tmp 84) (.tmp 85) 9) 86 4 (by kernel_rfl) (NL rfl) (.bool (!(y37 == ([])))) (runs_sneq (a := y37) (b := []) (by kernel_rfl) (by kernel_rfl)) (NI (!(y37 == ([]))) (fun bh55 => ?_) (fun bh55 => ?_)))))))))))))))
        ·
         have h55 := ne_of_beq_false (notT bh55)
         refine SEQ (RG (UU 1 [(2, B false)] (ENDOPS (NEXT (RF rfl (.bool false) () [] ?_ ?_)))))
         · (first | rfl | (show Value.bool _ = Value.bool true; congr 1; rw [boardLine_no (hasCab_f1 (by assumption))]; rfl) | (show Value.bool _ = Value.bool true; congr 1; rw [boardLine_no (hasCab_f2 (by assumption))]; rfl) | (show Value.bool _ = Value.bool true; congr 1; rw [boardLine_no (hasCab_f3 (by assumption) (by assumption))]; rfl) | (show Value.bool _ = Value.bool true; congr 1; rw [boardLine_nil hcb9 hx24 (List.eq_nil_of_length_eq_zero (by omega))]; rfl) | (show Value.bool _ = Value.bool true; congr 1; rw [hbl]; simp; done) | (exfalso; omega))
         · rfl
        ·
         have h55 := eq_of_beq (notF bh55)
         refine SKIP (OUTN (NEXT (RG (UU 2 [(54, I (wr ((k : Int) + 1)))] (CS 54 (vi (wr ((k : Int) + 1))) (vi ((k + 1 : Nat) : Int)) (vi_cast (by omega) (by omega)) (UU 1 [(8, I ((k + 1 : Nat) : Int))] (ENDOPS (BK (k + 1, ys38) [3, 6, 7, 8] 1 [0, 0, 0, 0, 0, 0] ⟨hl_y37, hd_y37⟩ (by simp)))))))))
      ·
       have h36 := of_decide_eq_false bh36
       obtain rfl := drop_nil hk (by omega)
       refine EXIT (PASS trivial (PASS trivial (OUT (NEXT (SEQ (RG (UU 6 [(2, B ((((parts (boardLine m2.1 m2.2) 32).length : Nat) : Int) == (x23.row.length : Int)))] (ENDOPS (NEXT (RF rfl (.bool ((((parts (boardLine m2.1 m2.2) 32).length : Nat) : Int) == (x23.row.length : Int))) () [] ?_ ?_))))))))))
       · (first | rfl | (show Value.bool _ = Value.bool true; congr 1; rw [boardLine_no (hasCab_f1 (by assumption))]; rfl) | (show Value.bool _ = Value.bool true; congr 1; rw [boardLine_no (hasCab_f2 (by assumption))]; rfl) | (show Value.bool _ = Value.bool true; congr 1; rw [boardLine_no (hasCab_f3 (by assumption) (by assumption))]; rfl) | (show Value.bool _ = Value.bool true; congr 1; rw [boardLine_nil hcb9 hx24 (List.eq_nil_of_length_eq_zero (by omega))]; rfl) | (show Value.bool _ = Value.bool true; congr 1; rw [hbl]; simp; done) | (exfalso; omega))
       · rfl

end SX
end Go.Proofs.YtcbpmjfjdjpalaaGreatDoor
