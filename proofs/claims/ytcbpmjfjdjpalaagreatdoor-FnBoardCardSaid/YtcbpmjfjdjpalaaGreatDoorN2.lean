/- Walks, printed by program. -/
import Derived.Test.YtcbpmjfjdjpalaaGreatDoorMdlx
import Derived.Test.YtcbpmjfjdjpalaaGreatDoorI5
import Derived.Test.YtcbpmjfjdjpalaaGreatDoorMdl6
import Derived.Test.YtcbpmjfjdjpalaaGreatDoorSxj
import Derived.Test.YtcbpmjfjdjpalaaGreatDoorShelf
namespace Go.Proofs.YtcbpmjfjdjpalaaGreatDoor
namespace SX
open Go Go.RowKit
set_option linter.unusedVariables false
set_option linter.unusedSimpArgs false
set_option maxRecDepth 10000
set_option maxHeartbeats 400000
theorem itoa_c (W : World) (n : Int) (hn : i64R n) (htab : Tab Tryz.prog W) : Spec Tryz.prog W [] 34 #[vi n] (RV (.string (bs (Lib.itoa n)))) := Spec.grow (Tryz.strconv_Itoa n hn.1 hn.2 W htab)

theorem iDigits_c (W : World) (n : Int) (hn : i64R n) (htab : Tab Tryz.prog W) : Spec Tryz.prog W [] 14 #[vi n] (RV (.string (bs (Lib.itoa n)))) := by
 refine ENTER0 (N := 5) (vs := [vi n]) Tryz.func14 rfl rfl (NL rfl) ?_
 refine SEQ (RG (UU 1 [] (NR (UU 1 [(3, I n)] (OPC (CA 34 #[vi n] (some 4) (RV (.string (bs (Lib.itoa n)))) (fun w hw => itoa_c w n (by first | assumption | exact wr_range _ | (unfold i64R at *; omega) | (simp only [i64R] at *; omega)) (htab.fr hw.fr)) ?_))))))
 rintro ⟨⟩
 have hr1 := itoa_len (n := n) (by first | assumption | exact wr_range _ | (unfold i64R at *; omega) | (simp only [i64R] at *; omega))
 refine UU 1 [(2, .v (.string (bs (Lib.itoa n))))] (ENDOPS (NEXT (RF rfl (.string (bs (Lib.itoa n))) () [] ?_ ?_)))
 · simp [RV]
 · rfl

theorem join_c (W : World) (xs : List (List UInt8)) (xs_a : Option Addr) (xs_c : Nat) (hxs : Rd strL W xs_a xs) (sep : List UInt8) (hc : xs.length ≤ xs_c) (hl : (Lib.join xs sep).length ≤ 140737488355328) (hn : xs.length ≤ 140737488355328) : Spec Tryz.prog W [] 17 #[.slice xs_a xs.length xs_c, .string (bs sep)] (RV (.string (bs (Lib.join xs sep)))) := Spec.joined hxs hc hl hn (fun bk o c xs sep => Tryz.strings_Join bk o c xs sep W) (fun a c sep => Tryz.strings_Join_none a c sep W)

theorem iBoardLine_c (W : World) (ho : House) (ho_rules_seats_a : Option Addr) (ho_rules_seats_c : Nat) (hho_rules_seats : Rd intL W ho_rules_seats_a ho.rules.seats) (ho_parties_a : Option Addr) (ho_parties_c : Nat) (hho_parties : Rd partyL W ho_parties_a ho.parties) (ho_cabins_a : Option Addr) (ho_cabins_c : Nat) (hho_cabins : Rd (cabinLx 47 81 99) W ho_cabins_a ho.cabins) (ho_todo_a : Option Addr) (ho_todo_c : Nat) (hho_todo : Rd intL W ho_todo_a ho.todo) (ho_jobs_a : Option Addr) (ho_jobs_c : Nat) (hho_jobs : Rd intL W ho_jobs_a ho.jobs) (cabin : Int) (hsz : HouseSz ho) (hcp : ho.parties.length ≤ ho_parties_c) (hct : ho.todo.length ≤ ho_todo_c) (htab : Tab Tryz.prog W) : Spec Tryz.prog W [] 6 #[.agg (hC ho ho_rules_seats_a ho_rules_seats_c ho_parties_a ho_parties_c ho_cabins_a ho_cabins_c ho_todo_a ho_todo_c ho_jobs_a ho_jobs_c).toArray, vi cabin] (RV (.string (bs (boardLine ho cabin)))) := by
 refine ENTER0 (N := 56) (vs := [.agg (hC ho ho_rules_seats_a ho_rules_seats_c ho_parties_a ho_parties_c ho_cabins_a ho_cabins_c ho_todo_a ho_todo_c ho_jobs_a ho_jobs_c).toArray, vi cabin]) Tryz.func6 rfl rfl (NL rfl) ?_
 have hs9 := hsz.1; have hs8 := hsz.2.1; have hs7 := hsz.2.2.1; have hs6 := hsz.2.2.2.1; have hs5 := hsz.2.2.2.2.1; have hs4 := hsz.2.2.2.2.2
 have hho_rules_seats_len := hho_rules_seats.len
 have hho_parties_len := hho_parties.len
 have hho_cabins_len := hho_cabins.len
 have hho_todo_len := hho_todo.len
 have hho_jobs_len := hho_jobs.len
 refine SEQ (RG (UL 2 [(2, .p 0 0)] [(30, (hC ho ho_rules_seats_a ho_rules_seats_c ho_parties_a ho_parties_c ho_cabins_a ho_cabins_c ho_todo_a ho_todo_c ho_jobs_a ho_jobs_c))] (ENDOPS (NEXT (SEQ (SEQ (RG (UU 2 [(10, .v (.agg (hC ho ho_rules_seats_a ho_rules_seats_c ho_parties_a ho_parties_c ho_cabins_a ho_cabins_c ho_todo_a ho_todo_c ho_jobs_a ho_jobs_c).toArray)), (11, I cabin)] (OPC (CA 13 #[.agg (hC ho ho_rules_seats_a ho_rules_seats_c ho_parties_a ho_parties_c ho_cabins_a ho_cabins_c ho_todo_a ho_todo_c ho_jobs_a ho_jobs_c).toArray, vi cabin] (some 12) (RV (.bool (hasCab ho cabin))) (fun w hw => iHasCabin_c w ho ho_rules_seats_a ho_rules_seats_c (hho_rules_seats.fr hw.fr) ho_parties_a ho_parties_c (hho_parties.fr hw.fr) ho_cabins_a ho_cabins_c (hho_cabins.fr hw.fr) ho_todo_a ho_todo_c (hho_todo.fr hw.fr) ho_jobs_a ho_jobs_c (hho_jobs.fr hw.fr) cabin (by assumption) (by first | assumption | omega | (dsimp only; omega) | (simp only [List.length_append, List.length_cons, List.length_nil] at *; omega)) (by first | assumption | omega | (dsimp only; omega) | (simp only [List.length_append, List.length_cons, List.length_nil] at *; omega))) ?_))))))))))
 rintro ⟨⟩
 refine UU 1 [(13, B (!(hasCab ho cabin)))] (NI (!(hasCab ho cabin)) (fun bh1 => ?_) (fun bh1 => ?_))
 ·
  have h1 := notT bh1
  refine SEQ (RG (UU 1 [(4, .v (.string (bs ([]))))] (ENDOPS (NEXT (RF rfl (.string (bs ([]))) () [] ?_ ?_)))))
  · (show Value.string _ = Value.string (bs (boardLine ho cabin)); congr 2; first | exact (boardLine_no (by assumption)).symm | exact (hbe.1 (by first | assumption | omega)).symm | exact (hbe.2 (by first | assumption | omega)).symm)
  · rfl
 ·
  have h1 := notF bh1
  have hcb := hasCab_in h1; have hcb9 := h1; have hok9 := hasCab_ok h1
  refine SKIP (NEXT (SEQ (RG (UU 1 [(5, .v (.slice none 0 0))] (ENDOPS (NEXT (SEQ (SEQ (RG (UU 3 [(15, .v (.slice ho_cabins_a ho.cabins.length ho_cabins_c)), (16, I cabin)] ?_))))))))))
  obtain ⟨x2, hx3⟩ : ∃ y, ho.cabins[cabin.toNat]? = some y := ⟨_, List.getElem?_eq_getElem (by omega)⟩
  obtain ⟨a4, c5, a7, c8, hel10, hi6, hi9, hi6_cap, hi9_cap⟩ := cabin_view hho_cabins hx3
  have hi6_len := hi6.len
  have hi9_len := hi9.len
  refine OPC (IX 28 (.tmp 15) (.tmp 16) 17 0 ho_cabins_a ho.cabins.length ho_cabins_c .i64 cabin 42 7 (Rd.some hho_cabins (by omega)) (by omega) (by omega) (UU 1 [(18, .e ho_cabins_a (cabin.toNat * 7) 5)] (OPC (LE 37 (.tmp 18) 19 37 ho_cabins_a (cabin.toNat * 7) 5 ([vi x2.seats.total, vi x2.seats.free, vi x2.seats.held, vi x2.seats.sold, vi x2.seats.tied, .slice a4 x2.row.length c5, .slice a7 x2.wheel.spoke.length c8]) (.slice a4 x2.row.length c5) (fun w hw => hel10.fr hw.fr) (UU 2 [(20, I (x2.row.length : Int)), (21, I 0)] (ENDOPS (NEXT (BLOCK (NIL 9 strL (LOOP (ι := Nat × (List Entry) × (Option Addr) × Nat × (List (List UInt8))) (fun j => [(2, .p 0 0), (5, .v (.slice j.2.2.1 j.2.2.2.2.length j.2.2.2.1)), (19, .v (.slice a4 x2.row.length c5)), (20, I (x2.row.length : Int)), (21, I (j.1 : Int))]) (fun j => [(30, (hC ho ho_rules_seats_a ho_rules_seats_c ho_parties_a ho_parties_c ho_cabins_a ho_cabins_c ho_todo_a ho_todo_c ho_jobs_a ho_jobs_c))]) (fun j => [slA 9 strL (.slice j.2.2.1 j.2.2.2.2.length j.2.2.2.1) j.2.2.2.2]) (fun j => j.1 + j.2.1.length = x2.row.length ∧ x2.row.drop j.1 = j.2.1 ∧ j.2.2.2.2 = (x2.row.take j.1).map (partB ho) ∧ j.2.2.2.2.length = j.1 ∧ (∀ x ∈ j.2.2.2.2, x.length ≤ 22)) (fun j => j.2.1.length) (0, x2.row, none, 0, []) [2, 5, 19, 20, 21] ⟨by simp, rfl, rfl, rfl, by simp⟩ (by kernel_rfl) rfl rfl ?_))))))))))
  rintro ⟨k, ys, oa, oc, out⟩ ⟨hk, hd, hv0, hv1, hv2⟩
  try dsimp only at hk hd hv0 hv1 hv2
  have hrl : x2.row.length ≤ 1048576 := (hs4 _ (List.mem_of_getElem? hx3)).1
  refine SEQ (RG (UU 1 [(22, B (decide ((k : Int) < (x2.row.length : Int))))] (ENDOPS (NEXT (SEQ (IFK (decide ((k : Int) < (x2.row.length : Int))) (fun bh11 => ?_) (fun bh11 => ?_)))))))
  ·
   have h11 := of_decide_eq_true bh11
   obtain ⟨y12, ys13, rfl, hx_y12, hd_y12, hl_y12⟩ := drop_cons hd hk (by omega)
   have hrp := row_party hok9 hx3 (List.mem_of_getElem? hx_y12)
   refine SKIP (NEXT (SEQ (BLOCK (SEQ (RG (OPC (IX 37 (.tmp 19) (.tmp 21) 23 0 a4 x2.row.length c5 .i64 (k : Int) 47 4 (Rd.some hi6 (by omega)) (by omega) (by omega) (OPC (LE 47 (.tmp 23) 24 47 a4 (k * 4) 0 (entryE y12) (.agg (entryE y12).toArray) (fun w hw => (hi6.fr hw.fr).flat hx_y12) (UL 2 [(7, .p 1 0)] [(30, (hC ho ho_rules_seats_a ho_rules_seats_c ho_parties_a ho_parties_c ho_cabins_a ho_cabins_c ho_todo_a ho_todo_c ho_jobs_a ho_jobs_c)), (47, entryE y12)] (NR (UU 2 [(26, I y12.id)] (OPC (CA 14 #[vi y12.id] (some 27) (RV (.string (bs (Lib.itoa y12.id)))) (fun w hw => iDigits_c w y12.id (by first | assumption | exact wr_range _ | (unfold i64R at *; omega) | (simp only [i64R] at *; omega)) (htab.fr hw.fr)) ?_))))))))))))))
   rintro ⟨⟩
   have hr14 := itoa_len (n := y12.id) (by first | assumption | exact wr_range _ | (unfold i64R at *; omega) | (simp only [i64R] at *; omega))
   refine UU 1 [(8, .v (.string (bs (Lib.itoa y12.id))))] (ENDOPS (NEXT (SEQ (SEQ (RG (UU 3 [(28, .v (.agg (hC ho ho_rules_seats_a ho_rules_seats_c ho_parties_a ho_parties_c ho_cabins_a ho_cabins_c ho_todo_a ho_todo_c ho_jobs_a ho_jobs_c).toArray)), (30, I y12.id)] (OPC (CA 15 #[.agg (hC ho ho_rules_seats_a ho_rules_seats_c ho_parties_a ho_parties_c ho_cabins_a ho_cabins_c ho_todo_a ho_todo_c ho_jobs_a ho_jobs_c).toArray, vi y12.id] (some 31) (RV (vi (atId ho.parties y12.id))) (fun w hw => iPartyAt_c w ho ho_rules_seats_a ho_rules_seats_c (hho_rules_seats.fr hw.fr) ho_parties_a ho_parties_c (hho_parties.fr hw.fr) ho_cabins_a ho_cabins_c (hho_cabins.fr hw.fr) ho_todo_a ho_todo_c (hho_todo.fr hw.fr) ho_jobs_a ho_jobs_c (hho_jobs.fr hw.fr) y12.id) ?_))))))))
   rintro ⟨⟩
   have hr15 := atId_lt ho.parties y12.id
   refine UU 1 [(9, I (atId ho.parties y12.id))] (ENDOPS (NEXT (SEQ (REGIONQ (by kernel_rfl) (by kernel_rfl) (QU 3 [(34, B (decide ((atId ho.parties y12.id) ≥ 0)))] (QSP 34 (decide ((atId ho.parties y12.id) ≥ 0)) (fun bh16 => ?_) (fun bh16 => ?_)))))))
   ·
    have h16 := of_decide_eq_true bh16
    refine QU 3 [(36, .v (.slice ho_parties_a ho.parties.length ho_parties_c)), (37, I (atId ho.parties y12.id))] ?_
    obtain ⟨x17, hx18⟩ : ∃ y, ho.parties[(atId ho.parties y12.id).toNat]? = some y := ⟨_, List.getElem?_eq_getElem (by omega)⟩
    refine QIX 27 (.tmp 36) (.tmp 37) 38 0 ho_parties_a ho.parties.length ho_parties_c .i64 (atId ho.parties y12.id) 50 10 (Rd.some hho_parties (by omega)) (by omega) (by omega) (QLE 50 (.tmp 38) 39 50 ho_parties_a ((atId ho.parties y12.id).toNat * 10) 0 (partyE x17) (.agg (partyE x17).toArray) (fun w hw => (hho_parties.fr hw.fr).flat hx18) (QU 2 [(41, I ho.now)] (QCA 16 #[.agg #[vi x17.id, vi x17.cabin, vi x17.from', vi x17.size, vi x17.tier, vi x17.since, vi x17.turn, vi x17.state, vi x17.until', vi x17.asked], vi ho.now] (some 42) (.bool (restingB x17 ho.now)) (fun w hw => iResting_c w x17 ho.now) (QU 1 [(43, B (restingB x17 ho.now))] (QEND rfl (NEXT (IFK (restingB x17 ho.now) (fun bh19 => ?_) (fun bh19 => ?_))))))))
    ·
     have h19 := bh19
     refine RG (UU 1 [(44, .v (.string (bs (Lib.itoa y12.id))))] (OPC (RUNV (.binOp .add 9 (.tmp 44) (.const (.string (bs ([42])))) 9) 45 9 (by kernel_rfl) (NL rfl) (.string (bs ((Lib.itoa y12.id) ++ ([42])))) (runs_scat (a := Lib.itoa y12.id) (b := [42]) (by kernel_rfl) (by kernel_rfl) (by first | omega | (simp only [List.length_append, List.length_cons, List.length_nil, List.length_take, List.length_drop] at *; omega))) (UU 1 [(8, .v (.string (bs ((Lib.itoa y12.id) ++ ([42])))))] (ENDOPS (NEXT (RG (UU 2 [(46, .v (.slice oa out.length oc)), (47, .v (.string (bs ((Lib.itoa y12.id) ++ ([42])))))] (OPC (BUILDS 43 1 #[(0, .tmp 47)] 48 43 (by kernel_rfl) (NL rfl) 9 [.string (bs ((Lib.itoa y12.id) ++ ([42])))] (by kernel_rfl) strL ([(Lib.itoa y12.id) ++ ([42])] : List (List UInt8)) rfl (by simp only [maxLen]; omega) [] [] _ rfl (flatRep rfl) (fun a20 ha21 => (OPC (APPENDO 43 (.tmp 46) (.tmp 48) 49 43 (by kernel_rfl) (NL rfl) (.slice oa out.length oc) a20 1 1 (by kernel_rfl) (by kernel_rfl) ha21 9 (by kernel_rfl) strL (.string (bs [])) 16 (by kernel_rfl) rfl (by decide) 0 0 out ([(Lib.itoa y12.id) ++ ([42])] : List (List UInt8)) _ rfl rfl (by first | omega | (simp only [List.length_append, List.length_cons, List.length_nil, List.length_take, List.length_drop] at *; omega)) (by simp only [maxLen]; first | omega | (simp only [List.length_append, List.length_cons, List.length_nil, List.length_take, List.length_drop] at *; omega)) (fun a22 c23 hn24 => ?_))))))))))))))
     refine UU 1 [(5, .v (.slice a22 ((out ++ ([(Lib.itoa y12.id) ++ ([42])] : List (List UInt8))).length) c23))] (ENDOPS (OUTN (NEXT (RG (UU 1 [(50, I (wr ((k : Int) + 1)))] (CS 50 (vi (wr ((k : Int) + 1))) (vi ((k + 1 : Nat) : Int)) (vi_cast (by omega) (by omega)) (UU 1 [(21, I ((k + 1 : Nat) : Int))] (ENDOPS (BK (k + 1, ys13, a22, c23, out ++ ([(Lib.itoa y12.id) ++ ([42])] : List (List UInt8))) [2, 5, 19, 20, 21] 1 [0] ⟨hl_y12, hd_y12, (by have hs9 := starB_of (id := y12.id) hx18; rw [hv0]; first | exact parts_1 hx_y12 (hs9.trans (by assumption)) | exact parts_0 hx_y12 (hs9.trans (by assumption))), (by simp only [List.length_append, List.length_cons, List.length_nil]; omega), (fun x hx => (List.mem_append.1 hx).elim (hv2 x) (fun hx => by have hx := List.mem_singleton.1 hx; rw [hx]; first | omega | (simp only [List.length_append, List.length_cons, List.length_nil]; omega)))⟩ (by simp))))))))))
    ·
     have h19 := bh19
     refine SKIP (NEXT (RG (UU 2 [(46, .v (.slice oa out.length oc)), (47, .v (.string (bs (Lib.itoa y12.id))))] (OPC (BUILDS 43 1 #[(0, .tmp 47)] 48 43 (by kernel_rfl) (NL rfl) 9 [.string (bs (Lib.itoa y12.id))] (by kernel_rfl) strL ([Lib.itoa y12.id] : List (List UInt8)) rfl (by simp only [maxLen]; omega) [] [] _ rfl (flatRep rfl) (fun a25 ha26 => (OPC (APPENDO 43 (.tmp 46) (.tmp 48) 49 43 (by kernel_rfl) (NL rfl) (.slice oa out.length oc) a25 1 1 (by kernel_rfl) (by kernel_rfl) ha26 9 (by kernel_rfl) strL (.string (bs [])) 16 (by kernel_rfl) rfl (by decide) 0 0 out ([Lib.itoa y12.id] : List (List UInt8)) _ rfl rfl (by first | omega | (simp only [List.length_append, List.length_cons, List.length_nil, List.length_take, List.length_drop] at *; omega)) (by simp only [maxLen]; first | omega | (simp only [List.length_append, List.length_cons, List.length_nil, List.length_take, List.length_drop] at *; omega)) (fun a27 c28 hn29 => (UU 1 [(5, .v (.slice a27 ((out ++ ([Lib.itoa y12.id] : List (List UInt8))).length) c28))] (ENDOPS (OUTN (NEXT (RG (UU 1 [(50, I (wr ((k : Int) + 1)))] (CS 50 (vi (wr ((k : Int) + 1))) (vi ((k + 1 : Nat) : Int)) (vi_cast (by omega) (by omega)) (UU 1 [(21, I ((k + 1 : Nat) : Int))] (ENDOPS (BK (k + 1, ys13, a27, c28, out ++ ([Lib.itoa y12.id] : List (List UInt8))) [2, 5, 19, 20, 21] 1 [0] ⟨hl_y12, hd_y12, (by have hs9 := starB_of (id := y12.id) hx18; rw [hv0]; first | exact parts_1 hx_y12 (hs9.trans (by assumption)) | exact parts_0 hx_y12 (hs9.trans (by assumption))), (by simp only [List.length_append, List.length_cons, List.length_nil]; omega), (fun x hx => (List.mem_append.1 hx).elim (hv2 x) (fun hx => by have hx := List.mem_singleton.1 hx; rw [hx]; first | omega | (simp only [List.length_append, List.length_cons, List.length_nil]; omega)))⟩ (by simp))))))))))))))))))))
   ·
    have h16 := of_decide_eq_false bh16
    refine QU 9 [(43, B false)] (QEND rfl (NEXT (IFF (by kernel_rfl) (SKIP (NEXT (RG (UU 2 [(46, .v (.slice oa out.length oc)), (47, .v (.string (bs (Lib.itoa y12.id))))] (OPC (BUILDS 43 1 #[(0, .tmp 47)] 48 43 (by kernel_rfl) (NL rfl) 9 [.string (bs (Lib.itoa y12.id))] (by kernel_rfl) strL ([Lib.itoa y12.id] : List (List UInt8)) rfl (by simp only [maxLen]; omega) [] [] _ rfl (flatRep rfl) (fun a30 ha31 => (OPC (APPENDO 43 (.tmp 46) (.tmp 48) 49 43 (by kernel_rfl) (NL rfl) (.slice oa out.length oc) a30 1 1 (by kernel_rfl) (by kernel_rfl) ha31 9 (by kernel_rfl) strL (.string (bs [])) 16 (by kernel_rfl) rfl (by decide) 0 0 out ([Lib.itoa y12.id] : List (List UInt8)) _ rfl rfl (by first | omega | (simp only [List.length_append, List.length_cons, List.length_nil, List.length_take, List.length_drop] at *; omega)) (by simp only [maxLen]; first | omega | (simp only [List.length_append, List.length_cons, List.length_nil, List.length_take, List.length_drop] at *; omega)) (fun a32 c33 hn34 => (UU 1 [(5, .v (.slice a32 ((out ++ ([Lib.itoa y12.id] : List (List UInt8))).length) c33))] (ENDOPS (OUTN (NEXT (RG (UU 1 [(50, I (wr ((k : Int) + 1)))] (CS 50 (vi (wr ((k : Int) + 1))) (vi ((k + 1 : Nat) : Int)) (vi_cast (by omega) (by omega)) (UU 1 [(21, I ((k + 1 : Nat) : Int))] (ENDOPS (BK (k + 1, ys13, a32, c33, out ++ ([Lib.itoa y12.id] : List (List UInt8))) [2, 5, 19, 20, 21] 1 [0] ⟨hl_y12, hd_y12, (by exfalso; omega), (by simp only [List.length_append, List.length_cons, List.length_nil]; omega), (fun x hx => (List.mem_append.1 hx).elim (hv2 x) (fun hx => by have hx := List.mem_singleton.1 hx; rw [hx]; first | omega | (simp only [List.length_append, List.length_cons, List.length_nil]; omega)))⟩ (by simp))))))))))))))))))))))))
  ·
   have h11 := of_decide_eq_false bh11
   obtain rfl := drop_nil hk (by omega)
   have hbe := boardLine_parts hcb9 hx3 (by simpa using hk) hv0
   refine EXIT (PASS trivial (PASS trivial (OUT (NEXT (SEQ (SEQ (RG (UU 3 [(53, B ((out.length : Int) == 0))] (NI ((out.length : Int) == 0) (fun bh35 => ?_) (fun bh35 => ?_))))))))))
   ·
    have h35 := eq_of_beq bh35
    refine SEQ (RG (UU 1 [(4, .v (.string (bs ([45]))))] (ENDOPS (NEXT (RF rfl (.string (bs ([45]))) () [] ?_ ?_)))))
    · (show Value.string _ = Value.string (bs (boardLine ho cabin)); congr 2; first | exact (boardLine_no (by assumption)).symm | exact (hbe.1 (by first | assumption | omega)).symm | exact (hbe.2 (by first | assumption | omega)).symm)
    · rfl
   ·
    have h35 := ne_of_beq_false bh35
    refine SKIP (NEXT (SEQ (RG (UU 1 [(54, .v (.slice oa out.length oc))] (FACT (out.length ≤ oc) (fun w hw => SlO.capE (hw.own 0 rfl)) (fun hcap36 => (OPC (CA 17 #[.slice oa out.length oc, .string (bs ([32]))] (some 55) (RV (.string (bs (Lib.join out ([32]))))) (fun w hw => join_c w out oa oc (hw.rdO 0 rfl) ([32]) (by first | assumption | omega) (by first | assumption | (have h9 := joinS_len out 22 (by assumption); omega)) (by omega)) ?_))))))))
    rintro ⟨⟩
    refine UU 1 [(4, .v (.string (bs (Lib.join out ([32])))))] (ENDOPS (NEXT (RF rfl (.string (bs (Lib.join out ([32])))) () [] ?_ ?_)))
    · (show Value.string _ = Value.string (bs (boardLine ho cabin)); congr 2; first | exact (boardLine_no (by assumption)).symm | exact (hbe.1 (by first | assumption | omega)).symm | exact (hbe.2 (by first | assumption | omega)).symm)
    · rfl

end SX
end Go.Proofs.YtcbpmjfjdjpalaaGreatDoor
