/- Walks, printed by program. -/
import Derived.Test.YtcbpmjfjdjpalaaGreatMdlu
import Derived.Test.YtcbpmjfjdjpalaaGreatI5
import Derived.Test.YtcbpmjfjdjpalaaGreatMdln
import Derived.Test.YtcbpmjfjdjpalaaGreatM1
namespace Go.Proofs.YtcbpmjfjdjpalaaGreat
namespace SX
open Go Go.RowKit
set_option linter.unusedVariables false
set_option linter.unusedSimpArgs false
set_option maxRecDepth 10000
set_option maxHeartbeats 400000
theorem firstFit1_c (W : World) (en : Entry) (free_b : Nat) (free : Int) (hfree : ElemAt W (some ⟨free_b, 0, none⟩) 0 [vi free]) (skip_b : Nat) (skip : List Int) (skip_a : Option Addr) (skip_c : Nat) (hskip : ElemAt W (some ⟨skip_b, 0, none⟩) 0 [.slice skip_a skip.length skip_c]) (hskipr : Rd intL W skip_a skip) : Spec Tryz.prog W [] 63 #[.agg #[vi en.level, vi en.turn, vi en.id, vi en.size], .pointer (some ⟨free_b, 0, none⟩), .pointer (some ⟨skip_b, 0, none⟩)] (RV (.bool (fitE free skip en))) := by
 refine ENTER0 (N := 16) (vs := [.agg #[vi en.level, vi en.turn, vi en.id, vi en.size], .pointer (some ⟨free_b, 0, none⟩), .pointer (some ⟨skip_b, 0, none⟩)]) Tryz.func63 rfl rfl (NL rfl) ?_
 refine ASE (d := 1) rfl (ASE (d := 2) rfl (SEQ (RG (UL 2 [(3, .p 0 0)] [(63, entryE en)] (NR (UU 2 [(6, I en.size)] (OPC (LE 3 (.tmp 1) 7 3 (some ⟨free_b, 0, none⟩) 0 0 ([vi free]) (vi free) (fun w hw => (hfree.fr hw.fr)) (UU 2 [(9, B (decide (en.size ≤ free)))] (SP 9 (decide (en.size ≤ free)) (fun bh1 => ?_) (fun bh1 => ?_)))))))))))
 ·
  have h1 := of_decide_eq_true bh1
  refine OPC (LE 24 (.tmp 2) 10 24 (some ⟨skip_b, 0, none⟩) 0 0 ([.slice skip_a skip.length skip_c]) (.slice skip_a skip.length skip_c) (fun w hw => (hskip.fr hw.fr)) (UU 2 [(12, I en.id)] (OPC (CA 64 #[.slice skip_a skip.length skip_c, vi en.id] (some 13) (RV (.bool ((skip).any (fun e : Int => en.id == e)))) (fun w hw => containsI_c w skip skip_a skip_c (hskipr.fr hw.fr) en.id) ?_))))
  rintro ⟨⟩
  refine UU 3 [(4, B (!((skip).any (fun e : Int => en.id == e))))] (ENDOPS (NEXT (RF rfl (.bool (!((skip).any (fun e : Int => en.id == e)))) () [] ?_ ?_)))
  · (first | (simp only [RV]; rw [fitE_of (by assumption)]; done) | (simp only [RV]; rw [fitE_no (by omega)]))
  · rfl
 ·
  have h1 := of_decide_eq_false bh1
  refine UU 7 [(4, B false)] (ENDOPS (NEXT (RF rfl (.bool false) () [] ?_ ?_)))
  · (first | (simp only [RV]; rw [fitE_of (by assumption)]; done) | (simp only [RV]; rw [fitE_no (by omega)]))
  · rfl

theorem ixFirstFit_c (W : World) (list : List Entry) (list_a : Option Addr) (list_c : Nat) (hlist : Rd entryL W list_a list) (free_b : Nat) (free : Int) (hfree : ElemAt W (some ⟨free_b, 0, none⟩) 0 [vi free]) (skip_b : Nat) (skip : List Int) (skip_a : Option Addr) (skip_c : Nat) (hskip : ElemAt W (some ⟨skip_b, 0, none⟩) 0 [.slice skip_a skip.length skip_c]) (hskipr : Rd intL W skip_a skip) : Spec Tryz.prog W [] 62 #[.slice list_a list.length list_c, .func (.func 63) #[] #[.pointer (some ⟨free_b, 0, none⟩), .pointer (some ⟨skip_b, 0, none⟩)]] (RV (vi (firstFit list free skip))) := by
 refine ENTER0 (N := 19) (vs := [.slice list_a list.length list_c, .func (.func 63) #[] #[.pointer (some ⟨free_b, 0, none⟩), .pointer (some ⟨skip_b, 0, none⟩)]]) Tryz.func62 rfl rfl (NL rfl) ?_
 have hlist_len := hlist.len
 refine SEQ (RG (UU 1 [] (ENDOPS (NEXT (SEQ (SEQ (RG (UU 3 [(7, I (list.length : Int)), (8, I 0)] (ENDOPS (NEXT (BLOCK (LOOP (ι := Nat × (List Entry)) (fun j => [(0, .v (.slice list_a list.length list_c)), (1, .v (.func (.func 63) #[] #[.pointer (some ⟨free_b, 0, none⟩), .pointer (some ⟨skip_b, 0, none⟩)])), (7, I (list.length : Int)), (8, I (j.1 : Int))]) (fun j => []) (fun j => []) (fun j => j.1 + j.2.length = list.length ∧ list.drop j.1 = j.2 ∧ firstFit list free skip = idxF (fitE free skip) j.2 j.1) (fun j => j.2.length) (0, list) [0, 1, 7, 8] ⟨by simp, rfl, rfl⟩ (by kernel_rfl) rfl rfl ?_))))))))))))
 rintro ⟨k, ys⟩ ⟨hk, hd, hv0⟩
 try dsimp only at hk hd hv0
 refine SEQ (RG (UU 1 [(9, B (decide ((k : Int) < (list.length : Int))))] (ENDOPS (NEXT (SEQ (IFK (decide ((k : Int) < (list.length : Int))) (fun bh1 => ?_) (fun bh1 => ?_)))))))
 ·
  have h1 := of_decide_eq_true bh1
  obtain ⟨y2, ys3, rfl, hx_y2, hd_y2, hl_y2⟩ := drop_cons hd hk (by omega)
  refine SKIP (NEXT (SEQ (BLOCK (SEQ (RG (UU 2 [(5, I (k : Int))] (NR (UU 3 [(11, .v (.func (.func 63) #[] #[.pointer (some ⟨free_b, 0, none⟩), .pointer (some ⟨skip_b, 0, none⟩)])), (12, .v (.slice list_a list.length list_c)), (13, I (k : Int))] (OPC (IX 55 (.tmp 12) (.tmp 13) 14 0 list_a list.length list_c .i64 (k : Int) 63 4 (Rd.some hlist (by omega)) (by omega) (by omega) (OPC (LE 63 (.tmp 14) 15 63 list_a (k * 4) 0 (entryE y2) (.agg (entryE y2).toArray) (fun w hw => (hlist.fr hw.fr).flat hx_y2) (OPC (CA 63 #[.agg #[vi y2.level, vi y2.turn, vi y2.id, vi y2.size], .pointer (some ⟨free_b, 0, none⟩), .pointer (some ⟨skip_b, 0, none⟩)] (some 16) (RV (.bool (fitE free skip y2))) (fun w hw => firstFit1_c w y2 free_b free (hfree.fr hw.fr) skip_b skip skip_a skip_c (hskip.fr hw.fr) (hskipr.fr hw.fr)) ?_))))))))))))))
  rintro ⟨⟩
  refine NI (fitE free skip y2) (fun bh4 => ?_) (fun bh4 => ?_)
  ·
   have h4 := bh4
   refine SEQ (RG (UU 2 [(4, I (k : Int))] (ENDOPS (NEXT (RF rfl (vi (k : Int)) () [] ?_ ?_)))))
   · simp_all [RV, idxF]
   · rfl
  ·
   have h4 := bh4
   refine SKIP (OUTN (NEXT (RG (UU 1 [(18, I (wr ((k : Int) + 1)))] (CS 18 (vi (wr ((k : Int) + 1))) (vi ((k + 1 : Nat) : Int)) (vi_cast (by omega) (by omega)) (UU 1 [(8, I ((k + 1 : Nat) : Int))] (ENDOPS (BK (k + 1, ys3) [0, 1, 7, 8] 0 [] ⟨hl_y2, hd_y2, (hv0.trans (by simp_all [idxF]))⟩ (by simp)))))))))
 ·
  have h1 := of_decide_eq_false bh1
  obtain rfl := drop_nil hk (by omega)
  refine EXIT (PASS trivial (PASS trivial (OUT (NEXT (SEQ (RG (UU 1 [(4, I (-1))] (ENDOPS (NEXT (RF rfl (vi (-1)) () [] ?_ ?_))))))))))
  · simp_all [RV, idxF]
  · rfl

theorem iFirstFit_c (W : World) (list : List Entry) (list_a : Option Addr) (list_c : Nat) (hlist : Rd entryL W list_a list) (free : Int) (skip : List Int) (skip_a : Option Addr) (skip_c : Nat) (hskip : Rd intL W skip_a skip) : Spec Tryz.prog W [] 31 #[.slice list_a list.length list_c, vi free, .slice skip_a skip.length skip_c] (RV (vi (firstFit list free skip))) := by
 refine ENTER0 (N := 10) (vs := [.slice list_a list.length list_c, vi free, .slice skip_a skip.length skip_c]) Tryz.func31 rfl rfl (NL rfl) ?_
 have hlist_len := hlist.len
 have hskip_len := hskip.len
 refine SEQ (RG (UL 3 [(4, .p 0 0), (5, .p 1 0)] [(3, [vi free]), (24, [.slice skip_a skip.length skip_c])] (NR (UU 1 [(7, .v (.slice list_a list.length list_c))] (EXPORT (fun bs hbs => ?_))))))
 obtain ⟨b1, b2, rfl⟩ := len2 hbs
 refine ASV (d := 4) rfl (ASV (d := 5) rfl (RU 1 [2, 3] [(8, .v (.func (.func 63) #[] #[.pointer (some ⟨b1, 0, none⟩), .pointer (some ⟨b2, 0, none⟩)]))] (by kernel_rfl) rfl (OPC (CA 62 #[.slice list_a list.length list_c, .func (.func 63) #[] #[.pointer (some ⟨b1, 0, none⟩), .pointer (some ⟨b2, 0, none⟩)]] (some 9) (RV (vi (firstFit list free skip))) (fun w hw => ixFirstFit_c w list list_a list_c (hlist.fr hw.fr) b1 free (ptC_elem (hw.own 0 rfl)) b2 skip skip_a skip_c (ptC_elem (hw.own 1 rfl)) (hskip.fr hw.fr)) ?_))))
 rintro ⟨⟩
 refine UU 1 [(6, I (firstFit list free skip))] (ENDOPS (IMPORT (L0 := [(3, [vi free]), (24, [.slice skip_a skip.length skip_c])]) (L1 := []) [b1, b2] rfl [0, 0] _ rfl [(6, I (firstFit list free skip))] (by kernel_rfl) (by kernel_rfl) (NEXT (RF rfl (vi (firstFit list free skip)) () [] ?_ ?_))))
 · rfl
 · rfl

theorem iNextOffer_c (W : World) (ho : House) (ho_rules_seats_a : Option Addr) (ho_rules_seats_c : Nat) (hho_rules_seats : Rd intL W ho_rules_seats_a ho.rules.seats) (ho_parties_a : Option Addr) (ho_parties_c : Nat) (hho_parties : Rd partyL W ho_parties_a ho.parties) (ho_cabins_a : Option Addr) (ho_cabins_c : Nat) (hho_cabins : Rd (cabinLx 63 99 114) W ho_cabins_a ho.cabins) (ho_todo_a : Option Addr) (ho_todo_c : Nat) (hho_todo : Rd intL W ho_todo_a ho.todo) (ho_jobs_a : Option Addr) (ho_jobs_c : Nat) (hho_jobs : Rd intL W ho_jobs_a ho.jobs) (cabin : Int) (hsz : HouseSz ho) (hcp : ho.parties.length ≤ ho_parties_c) (hct : ho.todo.length ≤ ho_todo_c) : Spec Tryz.prog W [] 10 #[.agg (hC ho ho_rules_seats_a ho_rules_seats_c ho_parties_a ho_parties_c ho_cabins_a ho_cabins_c ho_todo_a ho_todo_c ho_jobs_a ho_jobs_c).toArray, vi cabin] (RV (vi (nextOffer ho cabin))) := by
 refine ENTER0 (N := 51) (vs := [.agg (hC ho ho_rules_seats_a ho_rules_seats_c ho_parties_a ho_parties_c ho_cabins_a ho_cabins_c ho_todo_a ho_todo_c ho_jobs_a ho_jobs_c).toArray, vi cabin]) Tryz.func10 rfl rfl (NL rfl) ?_
 have hs9 := hsz.1; have hs8 := hsz.2.1; have hs7 := hsz.2.2.1; have hs6 := hsz.2.2.2.1; have hs5 := hsz.2.2.2.2.1; have hs4 := hsz.2.2.2.2.2
 have hho_rules_seats_len := hho_rules_seats.len
 have hho_parties_len := hho_parties.len
 have hho_cabins_len := hho_cabins.len
 have hho_todo_len := hho_todo.len
 have hho_jobs_len := hho_jobs.len
 refine SEQ (RG (UL 2 [(2, .p 0 0)] [(30, (hC ho ho_rules_seats_a ho_rules_seats_c ho_parties_a ho_parties_c ho_cabins_a ho_cabins_c ho_todo_a ho_todo_c ho_jobs_a ho_jobs_c))] (ENDOPS (NEXT (SEQ (SEQ (RG (UU 2 [(10, .v (.agg (hC ho ho_rules_seats_a ho_rules_seats_c ho_parties_a ho_parties_c ho_cabins_a ho_cabins_c ho_todo_a ho_todo_c ho_jobs_a ho_jobs_c).toArray)), (11, I cabin)] (OPC (CA 23 #[.agg (hC ho ho_rules_seats_a ho_rules_seats_c ho_parties_a ho_parties_c ho_cabins_a ho_cabins_c ho_todo_a ho_todo_c ho_jobs_a ho_jobs_c).toArray, vi cabin] (some 12) (RV (.bool (hasCab ho cabin))) (fun w hw => iHasCabin_c w ho ho_rules_seats_a ho_rules_seats_c (hho_rules_seats.fr hw.fr) ho_parties_a ho_parties_c (hho_parties.fr hw.fr) ho_cabins_a ho_cabins_c (hho_cabins.fr hw.fr) ho_todo_a ho_todo_c (hho_todo.fr hw.fr) ho_jobs_a ho_jobs_c (hho_jobs.fr hw.fr) cabin (by assumption) (by first | assumption | omega | (dsimp only; omega) | (simp only [List.length_append, List.length_cons, List.length_nil] at *; omega)) (by first | assumption | omega | (dsimp only; omega) | (simp only [List.length_append, List.length_cons, List.length_nil] at *; omega))) ?_))))))))))
 rintro ⟨⟩
 refine UU 1 [(13, B (!(hasCab ho cabin)))] (NI (!(hasCab ho cabin)) (fun bh1 => ?_) (fun bh1 => ?_))
 ·
  have h1 := notT bh1
  refine SEQ (RG (UU 1 [(4, I 0)] (ENDOPS (NEXT (RF rfl (vi 0) () [] ?_ ?_)))))
  · (show vi _ = vi (nextOffer ho cabin); congr 1; first | exact (nextOffer_no (by assumption)).symm)
  · rfl
 ·
  have h1 := notF bh1
  have hcb := hasCab_in h1; have hcb9 := h1
  refine SKIP (NEXT (SEQ (RG (UU 1 [(5, .v (.slice none 0 0))] (ENDOPS (NEXT (SEQ (SEQ (RG (UU 4 [(15, .v (.slice ho_parties_a ho.parties.length ho_parties_c)), (16, I (ho.parties.length : Int)), (17, I 0)] (ENDOPS (NEXT (BLOCK (NIL 3 intL (LOOP (ι := Nat × (List Party) × (Option Addr) × Nat × (List Int)) (fun j => [(1, I cabin), (2, .p 0 0), (5, .v (.slice j.2.2.1 j.2.2.2.2.length j.2.2.2.1)), (15, .v (.slice ho_parties_a ho.parties.length ho_parties_c)), (16, I (ho.parties.length : Int)), (17, I (j.1 : Int))]) (fun j => [(30, (hC ho ho_rules_seats_a ho_rules_seats_c ho_parties_a ho_parties_c ho_cabins_a ho_cabins_c ho_todo_a ho_todo_c ho_jobs_a ho_jobs_c))]) (fun j => [slA 3 intL (.slice j.2.2.1 j.2.2.2.2.length j.2.2.2.1) j.2.2.2.2]) (fun j => j.1 + j.2.1.length = ho.parties.length ∧ ho.parties.drop j.1 = j.2.1 ∧ j.2.2.2.2.length ≤ j.1 ∧ j.2.2.2.2 ++ skipGo ho.now j.2.1 = skipGo ho.now ho.parties) (fun j => j.2.1.length) (0, ho.parties, none, 0, []) [1, 2, 5, 15, 16, 17] ⟨by simp, rfl, by simp, rfl⟩ (by kernel_rfl) rfl rfl ?_)))))))))))))))
  rintro ⟨k, ys, oa, oc, out⟩ ⟨hk, hd, hv0, hv1⟩
  try dsimp only at hk hd hv0 hv1
  refine SEQ (RG (UU 1 [(18, B (decide ((k : Int) < (ho.parties.length : Int))))] (ENDOPS (NEXT (SEQ (IFK (decide ((k : Int) < (ho.parties.length : Int))) (fun bh2 => ?_) (fun bh2 => ?_)))))))
  ·
   have h2 := of_decide_eq_true bh2
   obtain ⟨y3, ys4, rfl, hx_y3, hd_y3, hl_y3⟩ := drop_cons hd hk (by omega)
   refine SKIP (NEXT (SEQ (BLOCK (SEQ (RG (OPC (IX 27 (.tmp 15) (.tmp 17) 19 0 ho_parties_a ho.parties.length ho_parties_c .i64 (k : Int) 46 10 (Rd.some hho_parties (by omega)) (by omega) (by omega) (OPC (LE 46 (.tmp 19) 20 46 ho_parties_a (k * 10) 0 (partyE y3) (.agg (partyE y3).toArray) (fun w hw => (hho_parties.fr hw.fr).flat hx_y3) (UL 2 [(7, .p 1 0)] [(30, (hC ho ho_rules_seats_a ho_rules_seats_c ho_parties_a ho_parties_c ho_cabins_a ho_cabins_c ho_todo_a ho_todo_c ho_jobs_a ho_jobs_c)), (46, partyE y3)] (NR (UU 3 [(21, .v (.agg (partyE y3).toArray)), (23, I ho.now)] (OPC (CA 30 #[.agg #[vi y3.id, vi y3.cabin, vi y3.from', vi y3.size, vi y3.tier, vi y3.since, vi y3.turn, vi y3.state, vi y3.until', vi y3.asked], vi ho.now] (some 24) (RV (.bool (restingB y3 ho.now))) (fun w hw => iResting_c w y3 ho.now) ?_))))))))))))))
   rintro ⟨⟩
   refine NI (restingB y3 ho.now) (fun bh5 => ?_) (fun bh5 => ?_)
   ·
    have h5 := bh5
    refine RG (UU 3 [(25, .v (.slice oa out.length oc)), (27, I y3.id)] (OPC (BUILDS 24 1 #[(0, .tmp 27)] 28 24 (by kernel_rfl) (NL rfl) 3 [vi y3.id] (by kernel_rfl) intL [y3.id] rfl (by simp only [maxLen]; omega) [] [] _ rfl (flatRep rfl) (fun a6 ha7 => (OPC (APPENDO 24 (.tmp 25) (.tmp 28) 29 24 (by kernel_rfl) (NL rfl) (.slice oa out.length oc) a6 1 1 (by kernel_rfl) (by kernel_rfl) ha7 3 (by kernel_rfl) intL (vi 0) 8 (by kernel_rfl) rfl (by decide) 0 0 out ([y3.id]) _ rfl rfl (by first | omega | (simp only [List.length_append, List.length_cons, List.length_nil, List.length_take, List.length_drop] at *; omega)) (by simp only [maxLen]; first | omega | (simp only [List.length_append, List.length_cons, List.length_nil, List.length_take, List.length_drop] at *; omega)) (fun a8 c9 hn10 => (UU 1 [(5, .v (.slice a8 ((out ++ ([y3.id])).length) c9))] (ENDOPS (OUTN (NEXT (RG (UU 1 [(30, I (wr ((k : Int) + 1)))] (CS 30 (vi (wr ((k : Int) + 1))) (vi ((k + 1 : Nat) : Int)) (vi_cast (by omega) (by omega)) (UU 1 [(17, I ((k + 1 : Nat) : Int))] (ENDOPS (BK (k + 1, ys4, a8, c9, out ++ ([y3.id])) [1, 2, 5, 15, 16, 17] 1 [0] ⟨hl_y3, hd_y3, (by first | (simp only [List.length_append, List.length_cons, List.length_nil]; omega) | omega | (dsimp only; omega)), (by simp_all [skipGo])⟩ (by simp))))))))))))))))))
   ·
    have h5 := bh5
    refine SKIP (OUTN (NEXT (RG (UU 1 [(30, I (wr ((k : Int) + 1)))] (CS 30 (vi (wr ((k : Int) + 1))) (vi ((k + 1 : Nat) : Int)) (vi_cast (by omega) (by omega)) (UU 1 [(17, I ((k + 1 : Nat) : Int))] (ENDOPS (BK (k + 1, ys4, oa, oc, out) [1, 2, 5, 15, 16, 17] 1 [0] ⟨hl_y3, hd_y3, (by first | (simp only [List.length_append, List.length_cons, List.length_nil]; omega) | omega | (dsimp only; omega)), (by simp_all [skipGo])⟩ (by simp)))))))))
  ·
   have h2 := of_decide_eq_false bh2
   obtain rfl := drop_nil hk (by omega)
   have hsk9 : out = skipGo ho.now ho.parties := (by simpa [skipGo] using hv1)
   refine EXIT (PASS trivial (PASS trivial (OUT (NEXT (SEQ (RG (UU 3 [(32, .v (.slice ho_cabins_a ho.cabins.length ho_cabins_c)), (33, I cabin)] ?_)))))))
   obtain ⟨x11, hx12⟩ : ∃ y, ho.cabins[cabin.toNat]? = some y := ⟨_, List.getElem?_eq_getElem (by omega)⟩
   obtain ⟨a13, c14, a16, c17, hel19, hi15, hi18, hi15_cap, hi18_cap⟩ := cabin_view hho_cabins hx12
   have hi15_len := hi15.len
   have hi18_len := hi18.len
   refine OPC (IX 28 (.tmp 32) (.tmp 33) 34 0 ho_cabins_a ho.cabins.length ho_cabins_c .i64 cabin 60 7 (Rd.some hho_cabins (by omega)) (by omega) (by omega) (OPC (LE 60 (.tmp 34) 35 60 ho_cabins_a (cabin.toNat * 7) 0 ([vi x11.seats.total, vi x11.seats.free, vi x11.seats.held, vi x11.seats.sold, vi x11.seats.tied, .slice a13 x11.row.length c14, .slice a16 x11.wheel.spoke.length c17]) (.agg #[vi x11.seats.total, vi x11.seats.free, vi x11.seats.held, vi x11.seats.sold, vi x11.seats.tied, .slice a13 x11.row.length c14, .slice a16 x11.wheel.spoke.length c17]) (fun w hw => hel19.fr hw.fr) (UL 2 [(8, .p 1 0)] [(30, (hC ho ho_rules_seats_a ho_rules_seats_c ho_parties_a ho_parties_c ho_cabins_a ho_cabins_c ho_todo_a ho_todo_c ho_jobs_a ho_jobs_c)), (60, [vi x11.seats.total, vi x11.seats.free, vi x11.seats.held, vi x11.seats.sold, vi x11.seats.tied, .slice a13 x11.row.length c14, .slice a16 x11.wheel.spoke.length c17])] (NR (UU 6 [(37, .v (.slice a13 x11.row.length c14)), (40, I x11.seats.free), (41, .v (.slice oa out.length oc))] (OPC (CA 31 #[.slice a13 x11.row.length c14, vi x11.seats.free, .slice oa out.length oc] (some 42) (RV (vi (firstFit x11.row x11.seats.free out))) (fun w hw => iFirstFit_c w x11.row a13 c14 (hi15.fr hw.fr) x11.seats.free out oa oc (hw.rdO 0 rfl)) ?_))))))))
   rintro ⟨⟩
   have hr20 := firstFit_lt x11.row x11.seats.free out
   refine UU 1 [(9, I (firstFit x11.row x11.seats.free out))] (ENDOPS (NEXT (SEQ (SEQ (RG (UU 2 [(44, B (decide ((firstFit x11.row x11.seats.free out) < 0)))] (NI (decide ((firstFit x11.row x11.seats.free out) < 0)) (fun bh21 => ?_) (fun bh21 => ?_))))))))
   ·
    have h21 := of_decide_eq_true bh21
    refine SEQ (RG (UU 1 [(4, I 0)] (ENDOPS (NEXT (RF rfl (vi 0) () [] ?_ ?_)))))
    · (show vi _ = vi (nextOffer ho cabin); congr 1; first | exact (nextOffer_no (by assumption)).symm | exact (nextOffer_neg hcb9 hx12 (by rw [← hsk9]; omega)).symm)
    · rfl
   ·
    have h21 := of_decide_eq_false bh21
    refine SKIP (NEXT (SEQ (RG (UU 3 [(46, .v (.slice a13 x11.row.length c14)), (47, I (firstFit x11.row x11.seats.free out))] ?_))))
    obtain ⟨x22, hx23⟩ : ∃ y, x11.row[(firstFit x11.row x11.seats.free out).toNat]? = some y := ⟨_, List.getElem?_eq_getElem (by omega)⟩
    refine OPC (IX 55 (.tmp 46) (.tmp 47) 48 0 a13 x11.row.length c14 .i64 (firstFit x11.row x11.seats.free out) 63 4 (Rd.some hi15 (by omega)) (by omega) (by omega) (UU 1 [(49, .e a13 ((firstFit x11.row x11.seats.free out).toNat * 4) 2)] (OPC (LE 3 (.tmp 49) 50 3 a13 ((firstFit x11.row x11.seats.free out).toNat * 4) 2 (entryE x22) (vi x22.id) (fun w hw => (hi15.fr hw.fr).flat hx23) (UU 1 [(4, I x22.id)] (ENDOPS (NEXT (RF rfl (vi x22.id) () [] ?_ ?_))))))))
    · (show vi _ = vi (nextOffer ho cabin); congr 1; first | exact (nextOffer_no (by assumption)).symm | exact (nextOffer_neg hcb9 hx12 (by rw [← hsk9]; omega)).symm | exact (nextOffer_at hcb9 hx12 (by rw [← hsk9]; omega) (by rw [← hsk9]; exact hx23)).symm)
    · rfl

theorem sameInts_c (W : World) (a : List Int) (a_a : Option Addr) (a_c : Nat) (ha : Rd intL W a_a a) (b : List Int) (b_a : Option Addr) (b_c : Nat) (hb : Rd intL W b_a b) : Spec Tryz.prog W [] 8 #[.slice a_a a.length a_c, .slice b_a b.length b_c] (RV (.bool (eqInts a b))) := by
 refine ENTER0 (N := 26) (vs := [.slice a_a a.length a_c, .slice b_a b.length b_c]) Tryz.func8 rfl rfl (NL rfl) ?_
 have ha_len := ha.len
 have hb_len := hb.len
 refine SEQ (RG (UU 1 [] (ENDOPS (NEXT (SEQ (SEQ (RG (UU 5 [(10, B ((a.length : Int) != (b.length : Int)))] (NI ((a.length : Int) != (b.length : Int)) (fun bh1 => ?_) (fun bh1 => ?_))))))))))
 ·
  have h1 := bne_iff_ne.1 bh1
  refine SEQ (RG (UU 1 [(4, B false)] (ENDOPS (NEXT (RF rfl (.bool false) () [] ?_ ?_)))))
  · simp [RV, eqInts_ne (a := a) (b := b) (by omega)]
  · rfl
 ·
  have h1 := bneF bh1
  refine SKIP (NEXT (SEQ (SEQ (RG (UU 1 [(5, I 0)] (ENDOPS (NEXT (BLOCK (LOOP (ι := Nat × (List Int)) (fun j => [(0, .v (.slice a_a a.length a_c)), (1, .v (.slice b_a b.length b_c)), (5, I (j.1 : Int))]) (fun j => []) (fun j => []) (fun j => j.1 + j.2.length = a.length ∧ a.drop j.1 = j.2 ∧ eqInts a b = eqInts j.2 (b.drop j.1)) (fun j => j.2.length) (0, a) [0, 1, 5] ⟨by simp, rfl, rfl⟩ (by kernel_rfl) rfl rfl ?_)))))))))
  rintro ⟨k, ys⟩ ⟨hk, hd, hv0⟩
  try dsimp only at hk hd hv0
  refine SEQ (SEQ (RG (UU 4 [(14, B (decide ((k : Int) < (a.length : Int))))] (NI (decide ((k : Int) < (a.length : Int))) (fun bh2 => ?_) (fun bh2 => ?_)))))
  ·
   have h2 := of_decide_eq_true bh2
   obtain ⟨y3, ys4, rfl, hx_y3, hd_y3, hl_y3⟩ := drop_cons hd hk (by omega)
   refine SKIP (NEXT (SEQ (BLOCK (SEQ (REGIONQ (by kernel_rfl) (by kernel_rfl) (QU 2 [(17, .v (.slice a_a a.length a_c)), (18, I (k : Int))] (QIX 24 (.tmp 17) (.tmp 18) 19 0 a_a a.length a_c .i64 (k : Int) 3 1 (Rd.some ha (by omega)) (by omega) (by omega) (QLE 3 (.tmp 19) 20 3 a_a (k * 1) 0 ([vi y3]) (vi y3) (fun w hw => (ha.fr hw.fr).flat hx_y3) (QU 2 [(21, .v (.slice b_a b.length b_c)), (22, I (k : Int))] ?_)))))))))
   obtain ⟨x5, hx6⟩ : ∃ y, b[k]? = some y := ⟨_, List.getElem?_eq_getElem (by omega)⟩
   refine QIX 24 (.tmp 21) (.tmp 22) 23 0 b_a b.length b_c .i64 (k : Int) 3 1 (Rd.some hb (by omega)) (by omega) (by omega) (QLE 3 (.tmp 23) 24 3 b_a (k * 1) 0 ([vi x5]) (vi x5) (fun w hw => (hb.fr hw.fr).flat hx6) (QU 1 [(25, B (y3 != x5))] (QEND rfl (NEXT (IFK (y3 != x5) (fun bh7 => ?_) (fun bh7 => ?_))))))
   ·
    have h7 := bne_iff_ne.1 bh7
    refine SEQ (RG (UU 1 [(4, B false)] (ENDOPS (NEXT (RF rfl (.bool false) () [] ?_ ?_)))))
    · simp [RV, hv0, drop_get ‹b[k]? = some _›, eqInts, *]
    · rfl
   ·
    have h7 := bneF bh7
    refine SKIP (OUTN (NEXT (RG (UU 2 [(16, I (wr ((k : Int) + 1)))] (CS 16 (vi (wr ((k : Int) + 1))) (vi ((k + 1 : Nat) : Int)) (vi_cast (by omega) (by omega)) (UU 1 [(5, I ((k + 1 : Nat) : Int))] (ENDOPS (BK (k + 1, ys4) [0, 1, 5] 0 [] ⟨hl_y3, hd_y3, hv0.trans (by simp [eqInts, drop_get ‹b[k]? = some _›, *])⟩ (by simp)))))))))
  ·
   have h2 := of_decide_eq_false bh2
   obtain rfl := drop_nil hk (by omega)
   refine EXIT (PASS trivial (PASS trivial (OUT (NEXT (SEQ (RG (UU 1 [(4, B true)] (ENDOPS (NEXT (RF rfl (.bool true) () [] ?_ ?_))))))))))
   · simp [RV, hv0, eqInts, List.drop_eq_nil_of_le (show b.length ≤ k by simp at hk; omega)]
   · rfl

end SX
end Go.Proofs.YtcbpmjfjdjpalaaGreat
