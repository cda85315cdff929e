/- Walks, printed by program. -/
import Derived.Test.YtcbpmjfjdjpalaaGreatDoorMdlx
import Derived.Test.YtcbpmjfjdjpalaaGreatDoorI4
import Derived.Test.YtcbpmjfjdjpalaaGreatDoorMdlm
import Derived.Test.YtcbpmjfjdjpalaaGreatDoorMdlp
namespace Go.Proofs.YtcbpmjfjdjpalaaGreatDoor
namespace SX
open Go Go.RowKit
set_option linter.unusedVariables false
set_option linter.unusedSimpArgs false
set_option maxRecDepth 10000
set_option maxHeartbeats 400000
theorem indexI_c (W : World) (list : List Int) (list_a : Option Addr) (list_c : Nat) (hlist : Rd intL W list_a list) (v : Int) : Spec Tryz.prog W [] 91 #[.slice list_a list.length list_c, vi v] (RV (vi (idxF (fun e : Int => v == e) list 0))) := by
 refine ENTER0 (N := 19) (vs := [.slice list_a list.length list_c, vi v]) Tryz.func91 rfl rfl (NL rfl) ?_
 have hlist_len := hlist.len
 refine SEQ (RG (UU 1 [] (ENDOPS (NEXT (SEQ (SEQ (RG (UU 3 [(7, I (list.length : Int)), (8, I 0)] (ENDOPS (NEXT (BLOCK (LOOP (ι := Nat × (List Int)) (fun j => [(0, .v (.slice list_a list.length list_c)), (1, I v), (7, I (list.length : Int)), (8, I (j.1 : Int))]) (fun j => []) (fun j => []) (fun j => j.1 + j.2.length = list.length ∧ list.drop j.1 = j.2 ∧ idxF (fun e : Int => v == e) list 0 = idxF (fun e : Int => v == e) j.2 j.1) (fun j => j.2.length) (0, list) [0, 1, 7, 8] ⟨by simp, rfl, rfl⟩ (by kernel_rfl) rfl rfl ?_))))))))))))
 rintro ⟨k, ys⟩ ⟨hk, hd, hv0⟩
 try dsimp only at hk hd hv0
 refine SEQ (RG (UU 1 [(9, B (decide ((k : Int) < (list.length : Int))))] (ENDOPS (NEXT (SEQ (IFK (decide ((k : Int) < (list.length : Int))) (fun bh1 => ?_) (fun bh1 => ?_)))))))
 ·
  have h1 := of_decide_eq_true bh1
  obtain ⟨y2, ys3, rfl, hx_y2, hd_y2, hl_y2⟩ := drop_cons hd hk (by omega)
  refine SKIP (NEXT (SEQ (BLOCK (SEQ (RG (UU 2 [(5, I (k : Int))] (NR (UU 3 [(11, I v), (12, .v (.slice list_a list.length list_c)), (13, I (k : Int))] (OPC (IX 24 (.tmp 12) (.tmp 13) 14 0 list_a list.length list_c .i64 (k : Int) 3 1 (Rd.some hlist (by omega)) (by omega) (by omega) (OPC (LE 3 (.tmp 14) 15 3 list_a (k * 1) 0 ([vi y2]) (vi y2) (fun w hw => (hlist.fr hw.fr).flat hx_y2) (UU 1 [(16, B (v == y2))] (NI (v == y2) (fun bh4 => ?_) (fun bh4 => ?_)))))))))))))))
  ·
   have h4 := eq_of_beq bh4
   refine SEQ (RG (UU 2 [(4, I (k : Int))] (ENDOPS (NEXT (RF rfl (vi (k : Int)) () [] ?_ ?_)))))
   · simp_all [RV, idxF]
   · rfl
  ·
   have h4 := ne_of_beq_false bh4
   refine SKIP (OUTN (NEXT (RG (UU 1 [(18, I (wr ((k : Int) + 1)))] (CS 18 (vi (wr ((k : Int) + 1))) (vi ((k + 1 : Nat) : Int)) (vi_cast (by omega) (by omega)) (UU 1 [(8, I ((k + 1 : Nat) : Int))] (ENDOPS (BK (k + 1, ys3) [0, 1, 7, 8] 0 [] ⟨hl_y2, hd_y2, (hv0.trans (by simp_all [idxF]))⟩ (by simp)))))))))
 ·
  have h1 := of_decide_eq_false bh1
  obtain rfl := drop_nil hk (by omega)
  refine EXIT (PASS trivial (PASS trivial (OUT (NEXT (SEQ (RG (UU 1 [(4, I (-1))] (ENDOPS (NEXT (RF rfl (vi (-1)) () [] ?_ ?_))))))))))
  · simp_all [RV, idxF]
  · rfl

theorem containsI_c (W : World) (list : List Int) (list_a : Option Addr) (list_c : Nat) (hlist : Rd intL W list_a list) (v : Int) : Spec Tryz.prog W [] 58 #[.slice list_a list.length list_c, vi v] (RV (.bool ((list).any (fun e : Int => v == e)))) := by
 refine ENTER0 (N := 9) (vs := [.slice list_a list.length list_c, vi v]) Tryz.func58 rfl rfl (NL rfl) ?_
 have hlist_len := hlist.len
 refine SEQ (RG (UU 1 [] (NR (UU 2 [(5, .v (.slice list_a list.length list_c)), (6, I v)] (OPC (CA 91 #[.slice list_a list.length list_c, vi v] (some 7) (RV (vi (idxF (fun e : Int => v == e) list 0))) (fun w hw => indexI_c w list list_a list_c (hlist.fr hw.fr) v) ?_))))))
 rintro ⟨⟩
 refine UU 2 [(4, B (decide ((idxF (fun e : Int => v == e) list 0) ≥ 0)))] (ENDOPS (NEXT (RF rfl (.bool (decide ((idxF (fun e : Int => v == e) list 0) ≥ 0))) () [] ?_ ?_)))
 · simp only [RV, idxF_any]
 · rfl

theorem iHouseOk_c (W : World) (ho : House) (ho_rules_seats_a : Option Addr) (ho_rules_seats_c : Nat) (hho_rules_seats : Rd intL W ho_rules_seats_a ho.rules.seats) (ho_parties_a : Option Addr) (ho_parties_c : Nat) (hho_parties : Rd partyL W ho_parties_a ho.parties) (ho_cabins_a : Option Addr) (ho_cabins_c : Nat) (hho_cabins : Rd (cabinLx 47 81 99) W ho_cabins_a ho.cabins) (ho_todo_a : Option Addr) (ho_todo_c : Nat) (hho_todo : Rd intL W ho_todo_a ho.todo) (ho_jobs_a : Option Addr) (ho_jobs_c : Nat) (hho_jobs : Rd intL W ho_jobs_a ho.jobs) (hsz : HouseSz ho) (hcp : ho.parties.length ≤ ho_parties_c) (hct : ho.todo.length ≤ ho_todo_c) : Spec Tryz.prog W [] 32 #[.agg (hC ho ho_rules_seats_a ho_rules_seats_c ho_parties_a ho_parties_c ho_cabins_a ho_cabins_c ho_todo_a ho_todo_c ho_jobs_a ho_jobs_c).toArray] (RV (.bool (houseOk ho))) := by
 refine ENTER0 (N := 211) (vs := [.agg (hC ho ho_rules_seats_a ho_rules_seats_c ho_parties_a ho_parties_c ho_cabins_a ho_cabins_c ho_todo_a ho_todo_c ho_jobs_a ho_jobs_c).toArray]) Tryz.func32 rfl rfl (NL rfl) ?_
 have hs9 := hsz.1; have hs8 := hsz.2.1; have hs7 := hsz.2.2.1; have hs6 := hsz.2.2.2.1; have hs5 := hsz.2.2.2.2.1; have hs4 := hsz.2.2.2.2.2
 have hho_rules_seats_len := hho_rules_seats.len
 have hho_parties_len := hho_parties.len
 have hho_cabins_len := hho_cabins.len
 have hho_todo_len := hho_todo.len
 have hho_jobs_len := hho_jobs.len
 refine SEQ (RG (UL 2 [(1, .p 0 0)] [(30, (hC ho ho_rules_seats_a ho_rules_seats_c ho_parties_a ho_parties_c ho_cabins_a ho_cabins_c ho_todo_a ho_todo_c ho_jobs_a ho_jobs_c))] (NR (UU 5 [(3, I (ho.rules.seats.length : Int))] (ENDOPS (NEXT (SEQ (SEQ (RG (UU 2 [(19, .v (.agg #[.slice ho_rules_seats_a ho.rules.seats.length ho_rules_seats_c, vi ho.rules.tiers, vi ho.rules.room, vi ho.rules.size, vi ho.rules.period, vi ho.rules.window, vi ho.rules.rest, vi ho.rules.tries, vi ho.rules.crew]))] (OPC (CA 53 #[.agg #[.slice ho_rules_seats_a ho.rules.seats.length ho_rules_seats_c, vi ho.rules.tiers, vi ho.rules.room, vi ho.rules.size, vi ho.rules.period, vi ho.rules.window, vi ho.rules.rest, vi ho.rules.tries, vi ho.rules.crew]] (some 20) (RV (.bool (rulesOk ho.rules))) (fun w hw => iRulesOk_c w ho.rules ho_rules_seats_a ho_rules_seats_c (hho_rules_seats.fr hw.fr)) ?_))))))))))))
 rintro ⟨⟩
 refine UU 2 [(22, B (!(rulesOk ho.rules)))] (SP 22 (!(rulesOk ho.rules)) (fun bh1 => ?_) (fun bh1 => ?_))
 ·
  have h1 := notT bh1
  refine UU 27 [(49, B true)] (ENDOPS (NEXT (IFT (by kernel_rfl) (SEQ (RG (UU 1 [(2, B false)] (ENDOPS (NEXT (RF rfl (.bool false) () [] ?_ ?_)))))))))
  · (first | (exact congrArg Value.bool (houseOk_t ⟨by assumption, by assumption, by assumption, by omega, by omega, hpp, ⟨fun i x h9 => by rw [hcl]; exact htt i x h9, fun x h9 => by rw [hcl, hw1]; exact hjj x h9, by omega⟩, hcc⟩).symm) | (refine congrArg Value.bool (houseOk_f fun hw9 => ?_).symm; obtain ⟨w1, w2, w3, w4, w5, w6, w7, w8⟩ := hw9; first | (exact absurd (w1.symm.trans (show rulesOk ho.rules = false by assumption)) (by decide)) | (exact absurd (w2.symm.trans (show inB ho.now 0 1000000 = false by assumption)) (by decide)) | (exact absurd (w3.symm.trans (show inB ho.turn 1 1000001 = false by assumption)) (by decide)) | omega | (have w9 := w7.2.2; omega) | (have wp := partiesP_iff.1 w6; first | omega) | (have wj := w7; have wn : wr ((ho.cabins.length : Int) - 1) = wr ((ho.rules.seats.length : Int) - 1) := (by rw [w5]); first | omega)))
  · rfl
 ·
  have h1 := notF bh1
  have hroom : ho.rules.room ≤ 10 ∧ 1 ≤ ho.rules.seats.length := (by have h9 := h1; simp [rulesOk, inB] at h9; omega); have hw1 : wr ((ho.rules.seats.length : Int) - 1) = ((ho.rules.seats.length - 1 : Nat) : Int) := (by rw [wr_of (by omega) (by omega)]; omega)
  refine UU 2 [(24, I ho.now)] (OPC (CA 54 #[vi ho.now, vi 0, vi 1000000] (some 25) (RV (.bool (inB ho.now 0 1000000))) (fun w hw => within_c w ho.now 0 1000000) ?_))
  rintro ⟨⟩
  refine UU 3 [(28, B (!(inB ho.now 0 1000000)))] (SP 28 (!(inB ho.now 0 1000000)) (fun bh2 => ?_) (fun bh2 => ?_))
  ·
   have h2 := notT bh2
   refine UU 21 [(49, B true)] (ENDOPS (NEXT (IFT (by kernel_rfl) (SEQ (RG (UU 1 [(2, B false)] (ENDOPS (NEXT (RF rfl (.bool false) () [] ?_ ?_)))))))))
   · (first | (exact congrArg Value.bool (houseOk_t ⟨by assumption, by assumption, by assumption, by omega, by omega, hpp, ⟨fun i x h9 => by rw [hcl]; exact htt i x h9, fun x h9 => by rw [hcl, hw1]; exact hjj x h9, by omega⟩, hcc⟩).symm) | (refine congrArg Value.bool (houseOk_f fun hw9 => ?_).symm; obtain ⟨w1, w2, w3, w4, w5, w6, w7, w8⟩ := hw9; first | (exact absurd (w1.symm.trans (show rulesOk ho.rules = false by assumption)) (by decide)) | (exact absurd (w2.symm.trans (show inB ho.now 0 1000000 = false by assumption)) (by decide)) | (exact absurd (w3.symm.trans (show inB ho.turn 1 1000001 = false by assumption)) (by decide)) | omega | (have w9 := w7.2.2; omega) | (have wp := partiesP_iff.1 w6; first | omega) | (have wj := w7; have wn : wr ((ho.cabins.length : Int) - 1) = wr ((ho.rules.seats.length : Int) - 1) := (by rw [w5]); first | omega)))
   · rfl
  ·
   have h2 := notF bh2
   refine UU 2 [(30, I ho.turn)] (OPC (CA 54 #[vi ho.turn, vi 1, vi 1000001] (some 31) (RV (.bool (inB ho.turn 1 1000001))) (fun w hw => within_c w ho.turn 1 1000001) ?_))
   rintro ⟨⟩
   refine UU 3 [(34, B (!(inB ho.turn 1 1000001)))] (SP 34 (!(inB ho.turn 1 1000001)) (fun bh3 => ?_) (fun bh3 => ?_))
   ·
    have h3 := notT bh3
    refine UU 15 [(49, B true)] (ENDOPS (NEXT (IFT (by kernel_rfl) (SEQ (RG (UU 1 [(2, B false)] (ENDOPS (NEXT (RF rfl (.bool false) () [] ?_ ?_)))))))))
    · (first | (exact congrArg Value.bool (houseOk_t ⟨by assumption, by assumption, by assumption, by omega, by omega, hpp, ⟨fun i x h9 => by rw [hcl]; exact htt i x h9, fun x h9 => by rw [hcl, hw1]; exact hjj x h9, by omega⟩, hcc⟩).symm) | (refine congrArg Value.bool (houseOk_f fun hw9 => ?_).symm; obtain ⟨w1, w2, w3, w4, w5, w6, w7, w8⟩ := hw9; first | (exact absurd (w1.symm.trans (show rulesOk ho.rules = false by assumption)) (by decide)) | (exact absurd (w2.symm.trans (show inB ho.now 0 1000000 = false by assumption)) (by decide)) | (exact absurd (w3.symm.trans (show inB ho.turn 1 1000001 = false by assumption)) (by decide)) | omega | (have w9 := w7.2.2; omega) | (have wp := partiesP_iff.1 w6; first | omega) | (have wj := w7; have wn : wr ((ho.cabins.length : Int) - 1) = wr ((ho.rules.seats.length : Int) - 1) := (by rw [w5]); first | omega)))
    · rfl
   ·
    have h3 := notF bh3
    refine UU 7 [(41, B ((ho.cabins.length : Int) != (ho.rules.seats.length : Int)))] (SP 41 ((ho.cabins.length : Int) != (ho.rules.seats.length : Int)) (fun bh4 => ?_) (fun bh4 => ?_))
    ·
     have h4 := bne_iff_ne.1 bh4
     refine UU 8 [(49, B true)] (ENDOPS (NEXT (IFT (by kernel_rfl) (SEQ (RG (UU 1 [(2, B false)] (ENDOPS (NEXT (RF rfl (.bool false) () [] ?_ ?_)))))))))
     · (first | (exact congrArg Value.bool (houseOk_t ⟨by assumption, by assumption, by assumption, by omega, by omega, hpp, ⟨fun i x h9 => by rw [hcl]; exact htt i x h9, fun x h9 => by rw [hcl, hw1]; exact hjj x h9, by omega⟩, hcc⟩).symm) | (refine congrArg Value.bool (houseOk_f fun hw9 => ?_).symm; obtain ⟨w1, w2, w3, w4, w5, w6, w7, w8⟩ := hw9; first | (exact absurd (w1.symm.trans (show rulesOk ho.rules = false by assumption)) (by decide)) | (exact absurd (w2.symm.trans (show inB ho.now 0 1000000 = false by assumption)) (by decide)) | (exact absurd (w3.symm.trans (show inB ho.turn 1 1000001 = false by assumption)) (by decide)) | omega | (have w9 := w7.2.2; omega) | (have wp := partiesP_iff.1 w6; first | omega) | (have wj := w7; have wn : wr ((ho.cabins.length : Int) - 1) = wr ((ho.rules.seats.length : Int) - 1) := (by rw [w5]); first | omega)))
     · rfl
    ·
     have h4 := bneF bh4
     have hcl := h4
     refine UU 8 [(49, B ((ho.jobs.length : Int) != ho.rules.crew))] (NI ((ho.jobs.length : Int) != ho.rules.crew) (fun bh5 => ?_) (fun bh5 => ?_))
     ·
      have h5 := bne_iff_ne.1 bh5
      refine SEQ (RG (UU 1 [(2, B false)] (ENDOPS (NEXT (RF rfl (.bool false) () [] ?_ ?_)))))
      · (first | (exact congrArg Value.bool (houseOk_t ⟨by assumption, by assumption, by assumption, by omega, by omega, hpp, ⟨fun i x h9 => by rw [hcl]; exact htt i x h9, fun x h9 => by rw [hcl, hw1]; exact hjj x h9, by omega⟩, hcc⟩).symm) | (refine congrArg Value.bool (houseOk_f fun hw9 => ?_).symm; obtain ⟨w1, w2, w3, w4, w5, w6, w7, w8⟩ := hw9; first | (exact absurd (w1.symm.trans (show rulesOk ho.rules = false by assumption)) (by decide)) | (exact absurd (w2.symm.trans (show inB ho.now 0 1000000 = false by assumption)) (by decide)) | (exact absurd (w3.symm.trans (show inB ho.turn 1 1000001 = false by assumption)) (by decide)) | omega | (have w9 := w7.2.2; omega) | (have wp := partiesP_iff.1 w6; first | omega) | (have wj := w7; have wn : wr ((ho.cabins.length : Int) - 1) = wr ((ho.rules.seats.length : Int) - 1) := (by rw [w5]); first | omega)))
      · rfl
     ·
      have h5 := bneF bh5
      refine SKIP (NEXT (SEQ (SEQ (RG (UU 4 [(53, B (decide ((ho.parties.length : Int) > 40)))] (NI (decide ((ho.parties.length : Int) > 40)) (fun bh6 => ?_) (fun bh6 => ?_)))))))
      ·
       have h6 := of_decide_eq_true bh6
       refine SEQ (RG (UU 1 [(2, B false)] (ENDOPS (NEXT (RF rfl (.bool false) () [] ?_ ?_)))))
       · (first | (exact congrArg Value.bool (houseOk_t ⟨by assumption, by assumption, by assumption, by omega, by omega, hpp, ⟨fun i x h9 => by rw [hcl]; exact htt i x h9, fun x h9 => by rw [hcl, hw1]; exact hjj x h9, by omega⟩, hcc⟩).symm) | (refine congrArg Value.bool (houseOk_f fun hw9 => ?_).symm; obtain ⟨w1, w2, w3, w4, w5, w6, w7, w8⟩ := hw9; first | (exact absurd (w1.symm.trans (show rulesOk ho.rules = false by assumption)) (by decide)) | (exact absurd (w2.symm.trans (show inB ho.now 0 1000000 = false by assumption)) (by decide)) | (exact absurd (w3.symm.trans (show inB ho.turn 1 1000001 = false by assumption)) (by decide)) | omega | (have w9 := w7.2.2; omega) | (have wp := partiesP_iff.1 w6; first | omega) | (have wj := w7; have wn : wr ((ho.cabins.length : Int) - 1) = wr ((ho.rules.seats.length : Int) - 1) := (by rw [w5]); first | omega)))
       · rfl
      ·
       have h6 := of_decide_eq_false bh6
       refine SKIP (NEXT (SEQ (SEQ (RG (UU 4 [(55, .v (.slice ho_parties_a ho.parties.length ho_parties_c)), (56, I (ho.parties.length : Int)), (57, I 0)] (ENDOPS (NEXT (BLOCK (LOOP (ι := Nat × (List Party)) (fun j => [(1, .p 0 0), (3, I (ho.rules.seats.length : Int)), (55, .v (.slice ho_parties_a ho.parties.length ho_parties_c)), (56, I (ho.parties.length : Int)), (57, I (j.1 : Int))]) (fun j => [(30, (hC ho ho_rules_seats_a ho_rules_seats_c ho_parties_a ho_parties_c ho_cabins_a ho_cabins_c ho_todo_a ho_todo_c ho_jobs_a ho_jobs_c))]) (fun j => []) (fun j => j.1 + j.2.length = ho.parties.length ∧ ho.parties.drop j.1 = j.2 ∧ (∀ (i : Nat) (p : Party), i < j.1 → ho.parties[i]? = some p → PartyH ho i p ∧ PartyI ho p i)) (fun j => j.2.length) (0, ho.parties) [1, 3, 55, 56, 57] ⟨by simp, rfl, fun i p hi => absurd hi (Nat.not_lt_zero _)⟩ (by kernel_rfl) rfl rfl ?_)))))))))
       rintro ⟨k, ys⟩ ⟨hk, hd, hv0⟩
       try dsimp only at hk hd hv0
       refine SEQ (RG (UU 1 [(58, B (decide ((k : Int) < (ho.parties.length : Int))))] (ENDOPS (NEXT (SEQ (IFK (decide ((k : Int) < (ho.parties.length : Int))) (fun bh7 => ?_) (fun bh7 => ?_)))))))
       ·
        have h7 := of_decide_eq_true bh7
        obtain ⟨y8, ys9, rfl, hx_y8, hd_y8, hl_y8⟩ := drop_cons hd hk (by omega)
        refine SKIP (NEXT (SEQ (BLOCK (SEQ (RG (UU 1 [(59, I (k : Int))] (OPC (IX 27 (.tmp 55) (.tmp 57) 60 0 ho_parties_a ho.parties.length ho_parties_c .i64 (k : Int) 50 10 (Rd.some hho_parties (by omega)) (by omega) (by omega) (OPC (LE 50 (.tmp 60) 61 50 ho_parties_a (k * 10) 0 (partyE y8) (.agg (partyE y8).toArray) (fun w hw => (hho_parties.fr hw.fr).flat hx_y8) (UL 3 [(4, I (k : Int)), (5, .p 1 0)] [(30, (hC ho ho_rules_seats_a ho_rules_seats_c ho_parties_a ho_parties_c ho_cabins_a ho_cabins_c ho_todo_a ho_todo_c ho_jobs_a ho_jobs_c)), (50, partyE y8)] (ENDOPS (NEXT (SEQ (SEQ (REGIONQ (by kernel_rfl) (by kernel_rfl) (QU 5 [(63, .v (.agg #[.slice ho_rules_seats_a ho.rules.seats.length ho_rules_seats_c, vi ho.rules.tiers, vi ho.rules.room, vi ho.rules.size, vi ho.rules.period, vi ho.rules.window, vi ho.rules.rest, vi ho.rules.tries, vi ho.rules.crew])), (64, .v (.agg (partyE y8).toArray)), (66, I ho.now)] (QCA 55 #[.agg #[.slice ho_rules_seats_a ho.rules.seats.length ho_rules_seats_c, vi ho.rules.tiers, vi ho.rules.room, vi ho.rules.size, vi ho.rules.period, vi ho.rules.window, vi ho.rules.rest, vi ho.rules.tries, vi ho.rules.crew], .agg #[vi y8.id, vi y8.cabin, vi y8.from', vi y8.size, vi y8.tier, vi y8.since, vi y8.turn, vi y8.state, vi y8.until', vi y8.asked], vi ho.now] (some 67) (.bool (partyOk ho.rules y8 ho.now)) (fun w hw => iPartyOk_c w ho.rules ho_rules_seats_a ho_rules_seats_c (hho_rules_seats.fr hw.fr) y8 ho.now) ?_))))))))))))))))))
        refine QU 2 [(69, B (!(partyOk ho.rules y8 ho.now)))] (QSP 69 (!(partyOk ho.rules y8 ho.now)) (fun bh10 => ?_) (fun bh10 => ?_))
        ·
         have h10 := notT bh10
         refine QU 22 [(91, B true)] (QEND rfl (NEXT (IFT (by kernel_rfl) (SEQ (RG (UU 1 [(2, B false)] (ENDOPS (NEXT (RF rfl (.bool false) () [] ?_ ?_)))))))))
         · (first | (exact congrArg Value.bool (houseOk_t ⟨by assumption, by assumption, by assumption, by omega, by omega, hpp, ⟨fun i x h9 => by rw [hcl]; exact htt i x h9, fun x h9 => by rw [hcl, hw1]; exact hjj x h9, by omega⟩, hcc⟩).symm) | (refine congrArg Value.bool (houseOk_f fun hw9 => ?_).symm; obtain ⟨w1, w2, w3, w4, w5, w6, w7, w8⟩ := hw9; first | (exact absurd (w1.symm.trans (show rulesOk ho.rules = false by assumption)) (by decide)) | (exact absurd (w2.symm.trans (show inB ho.now 0 1000000 = false by assumption)) (by decide)) | (exact absurd (w3.symm.trans (show inB ho.turn 1 1000001 = false by assumption)) (by decide)) | omega | (have w9 := w7.2.2; omega) | (have wp := partiesP_iff.1 w6; first | (have w6 := (wp k _ hx_y8).1.1; simp_all; done) | (have w6 := (wp k _ hx_y8).1.2.1; omega)) | (exact absurd ((w8 k _ hx_y8).2.1.symm.trans (show agrees ho.rules y8 ho.parties (k : Int) ho.now = false by assumption)) (by decide)) | (have w9 := (w8 k _ hx_y8).2.2; omega) | (have wj := w7; have wn : wr ((ho.cabins.length : Int) - 1) = wr ((ho.rules.seats.length : Int) - 1) := (by rw [w5]); first | (have w6 := (wj.1 k _ hx_y8).1; rw [wn] at w6; exact absurd (w6.symm.trans (show inB y8 0 (wr ((ho.rules.seats.length : Int) - 1)) = false by assumption)) (by decide)) | (exact Exists.elim ((any_take' (l := ho.todo) (k := k) (x := y8)).1 (by assumption)) fun j9 h9 => Exists.elim h9 fun z9 h9 => (wj.1 k _ hx_y8).2 j9 z9 h9.1 h9.2.1 h9.2.2) | (have w6 := wj.2.1 _ (List.mem_of_getElem? hx_y8); rw [wn, hw1] at w6; exact absurd (w6.symm.trans (show inB y8 (-1) ((ho.rules.seats.length - 1 : Nat) : Int) = false by assumption)) (by decide)))))
         · rfl
        ·
         have h10 := notF bh10
         refine QU 7 [(76, B (decide (y8.turn ≥ ho.turn)))] (QSP 76 (decide (y8.turn ≥ ho.turn)) (fun bh11 => ?_) (fun bh11 => ?_))
         ·
          have h11 := of_decide_eq_true bh11
          refine QU 15 [(91, B true)] (QEND rfl (NEXT (IFT (by kernel_rfl) (SEQ (RG (UU 1 [(2, B false)] (ENDOPS (NEXT (RF rfl (.bool false) () [] ?_ ?_)))))))))
          · (first | (exact congrArg Value.bool (houseOk_t ⟨by assumption, by assumption, by assumption, by omega, by omega, hpp, ⟨fun i x h9 => by rw [hcl]; exact htt i x h9, fun x h9 => by rw [hcl, hw1]; exact hjj x h9, by omega⟩, hcc⟩).symm) | (refine congrArg Value.bool (houseOk_f fun hw9 => ?_).symm; obtain ⟨w1, w2, w3, w4, w5, w6, w7, w8⟩ := hw9; first | (exact absurd (w1.symm.trans (show rulesOk ho.rules = false by assumption)) (by decide)) | (exact absurd (w2.symm.trans (show inB ho.now 0 1000000 = false by assumption)) (by decide)) | (exact absurd (w3.symm.trans (show inB ho.turn 1 1000001 = false by assumption)) (by decide)) | omega | (have w9 := w7.2.2; omega) | (have wp := partiesP_iff.1 w6; first | (have w6 := (wp k _ hx_y8).1.1; simp_all; done) | (have w6 := (wp k _ hx_y8).1.2.1; omega)) | (exact absurd ((w8 k _ hx_y8).2.1.symm.trans (show agrees ho.rules y8 ho.parties (k : Int) ho.now = false by assumption)) (by decide)) | (have w9 := (w8 k _ hx_y8).2.2; omega) | (have wj := w7; have wn : wr ((ho.cabins.length : Int) - 1) = wr ((ho.rules.seats.length : Int) - 1) := (by rw [w5]); first | (have w6 := (wj.1 k _ hx_y8).1; rw [wn] at w6; exact absurd (w6.symm.trans (show inB y8 0 (wr ((ho.rules.seats.length : Int) - 1)) = false by assumption)) (by decide)) | (exact Exists.elim ((any_take' (l := ho.todo) (k := k) (x := y8)).1 (by assumption)) fun j9 h9 => Exists.elim h9 fun z9 h9 => (wj.1 k _ hx_y8).2 j9 z9 h9.1 h9.2.1 h9.2.2) | (have w6 := wj.2.1 _ (List.mem_of_getElem? hx_y8); rw [wn, hw1] at w6; exact absurd (w6.symm.trans (show inB y8 (-1) ((ho.rules.seats.length - 1 : Nat) : Int) = false by assumption)) (by decide)))))
          · rfl
         ·
          have h11 := of_decide_eq_false bh11
          refine QU 3 [(79, B (decide ((k : Int) > 0)))] (QSP 79 (decide ((k : Int) > 0)) (fun bh12 => ?_) (fun bh12 => ?_))
          ·
           have h12 := of_decide_eq_true bh12
           refine QU 4 [(81, .v (.slice ho_parties_a ho.parties.length ho_parties_c)), (83, I (wr ((k : Int) - 1)))] (QCAST (d := 83) (vi (wr ((k : Int) - 1))) (vi ((k - 1 : Nat) : Int)) (by kernel_rfl) (vi_cast (by omega) (by omega)) ?_)
           obtain ⟨x13, hx14⟩ : ∃ y, ho.parties[k - 1]? = some y := ⟨_, List.getElem?_eq_getElem (by omega)⟩
           refine QIX 27 (.tmp 81) (.tmp 83) 84 0 ho_parties_a ho.parties.length ho_parties_c .i64 ((k - 1 : Nat) : Int) 50 10 (Rd.some hho_parties (by omega)) (by omega) (by omega) (QU 1 [(85, .e ho_parties_a ((k - 1) * 10) 0)] (QLE 3 (.tmp 85) 86 3 ho_parties_a ((k - 1) * 10) 0 (partyE x13) (vi x13.id) (fun w hw => (hho_parties.fr hw.fr).flat hx14) (QU 5 [(91, B (decide (x13.id ≥ y8.id)))] (QEND rfl (NEXT (IFK (decide (x13.id ≥ y8.id)) (fun bh15 => ?_) (fun bh15 => ?_)))))))
           ·
            have h15 := of_decide_eq_true bh15
            refine SEQ (RG (UU 1 [(2, B false)] (ENDOPS (NEXT (RF rfl (.bool false) () [] ?_ ?_)))))
            · (first | (exact congrArg Value.bool (houseOk_t ⟨by assumption, by assumption, by assumption, by omega, by omega, hpp, ⟨fun i x h9 => by rw [hcl]; exact htt i x h9, fun x h9 => by rw [hcl, hw1]; exact hjj x h9, by omega⟩, hcc⟩).symm) | (refine congrArg Value.bool (houseOk_f fun hw9 => ?_).symm; obtain ⟨w1, w2, w3, w4, w5, w6, w7, w8⟩ := hw9; first | (exact absurd (w1.symm.trans (show rulesOk ho.rules = false by assumption)) (by decide)) | (exact absurd (w2.symm.trans (show inB ho.now 0 1000000 = false by assumption)) (by decide)) | (exact absurd (w3.symm.trans (show inB ho.turn 1 1000001 = false by assumption)) (by decide)) | omega | (have w9 := w7.2.2; omega) | (have wp := partiesP_iff.1 w6; first | (have w6 := (wp k _ hx_y8).1.1; simp_all; done) | (have w6 := (wp k _ hx_y8).1.2.1; omega) | (have w6 := (wp k _ hx_y8).1.2.2 (by omega) _ hx14; omega)) | (exact absurd ((w8 k _ hx_y8).2.1.symm.trans (show agrees ho.rules y8 ho.parties (k : Int) ho.now = false by assumption)) (by decide)) | (have w9 := (w8 k _ hx_y8).2.2; omega) | (have wj := w7; have wn : wr ((ho.cabins.length : Int) - 1) = wr ((ho.rules.seats.length : Int) - 1) := (by rw [w5]); first | (have w6 := (wj.1 k _ hx_y8).1; rw [wn] at w6; exact absurd (w6.symm.trans (show inB y8 0 (wr ((ho.rules.seats.length : Int) - 1)) = false by assumption)) (by decide)) | (exact Exists.elim ((any_take' (l := ho.todo) (k := k) (x := y8)).1 (by assumption)) fun j9 h9 => Exists.elim h9 fun z9 h9 => (wj.1 k _ hx_y8).2 j9 z9 h9.1 h9.2.1 h9.2.2) | (have w6 := wj.2.1 _ (List.mem_of_getElem? hx_y8); rw [wn, hw1] at w6; exact absurd (w6.symm.trans (show inB y8 (-1) ((ho.rules.seats.length - 1 : Nat) : Int) = false by assumption)) (by decide)))))
            · rfl
           ·
            have h15 := of_decide_eq_false bh15
            refine SKIP (NEXT (SEQ (RG (UU 3 [(93, .v (.slice ho_parties_a ho.parties.length ho_parties_c)), (94, I (k : Int))] (OPC (CUTH 27 (.tmp 93) (.tmp 94) 95 27 (by kernel_rfl) (NL rfl) ho_parties_a ho.parties.length ho_parties_c .i64 (k : Int) (by kernel_rfl) (by kernel_rfl) 50 partyL ho.parties (by kernel_rfl) (by kernel_rfl) (by omega) (by first | omega | (simp only [List.length_append, List.length_cons, List.length_nil, List.length_take, List.length_drop] at *; omega)) rfl (by omega) (fun a16 hsh17 => ?_)))))))
            have hsh17 : ∀ w, Rd partyL w ho_parties_a ho.parties → Rd partyL w a16 (ho.parties.take k) := hsh17
            have hln18 : (ho.parties.take k).length = k := by first | (simp; done) | (simp; omega)
            refine CS 95 (.slice a16 k ho_parties_c) (.slice a16 ((ho.parties.take k).length) ho_parties_c) (by rw [hln18]) (UU 2 [(96, I (((ho.parties.take k).length : Nat) : Int)), (97, I 0)] (ENDOPS (NEXT (BLOCK (LOOP (ι := Nat) (fun j => [(1, .p 0 0), (3, I (ho.rules.seats.length : Int)), (5, .p 1 0), (55, .v (.slice ho_parties_a ho.parties.length ho_parties_c)), (56, I (ho.parties.length : Int)), (57, I (k : Int)), (95, .v (.slice a16 ((ho.parties.take k).length) ho_parties_c)), (96, I (((ho.parties.take k).length : Nat) : Int)), (97, I (j : Int))]) (fun j => [(30, (hC ho ho_rules_seats_a ho_rules_seats_c ho_parties_a ho_parties_c ho_cabins_a ho_cabins_c ho_todo_a ho_todo_c ho_jobs_a ho_jobs_c)), (50, partyE y8)]) (fun j => []) (fun j => j ≤ k ∧ PartyI ho y8 j) (fun j => k - j) (0) [1, 3, 5, 55, 56, 57, 95, 96, 97] ⟨Nat.zero_le _, fun m q hm => absurd hm (Nat.not_lt_zero _)⟩ (by kernel_rfl) rfl rfl ?_)))))
            rintro j ⟨hj, hpi⟩
            try dsimp only at hj hpi
            refine SEQ (RG (UU 1 [(98, B (decide ((j : Int) < (((ho.parties.take k).length : Nat) : Int))))] (ENDOPS (NEXT (SEQ (IFK (decide ((j : Int) < (((ho.parties.take k).length : Nat) : Int))) (fun bh19 => ?_) (fun bh19 => ?_)))))))
            ·
             have h19 := of_decide_eq_true bh19
             refine SKIP (NEXT (SEQ (BLOCK (SEQ (RG ?_)))))
             obtain ⟨x20, hx21⟩ : ∃ y, (ho.parties.take k)[j]? = some y := ⟨_, List.getElem?_eq_getElem (by omega)⟩
             refine FACT (a16.isSome = true) (fun w hw => Rd.some (hsh17 _ (hho_parties.fr hw.fr)) (by omega)) (fun hs22 => (OPC (IX 27 (.tmp 95) (.tmp 97) 99 0 a16 ((ho.parties.take k).length) ho_parties_c .i64 (j : Int) 50 10 hs22 (by omega) (by omega) (OPC (LE 50 (.tmp 99) 100 50 a16 (j * 10) 0 (partyE x20) (.agg (partyE x20).toArray) (fun w hw => (hsh17 _ (hho_parties.fr hw.fr)).flat hx21) (UL 2 [(7, .p 2 0)] [(30, (hC ho ho_rules_seats_a ho_rules_seats_c ho_parties_a ho_parties_c ho_cabins_a ho_cabins_c ho_todo_a ho_todo_c ho_jobs_a ho_jobs_c)), (50, partyE y8), (50, partyE x20)] (NR (UU 6 [(106, B (y8.turn == x20.turn))] (SP 106 (y8.turn == x20.turn) (fun bh23 => ?_) (fun bh23 => ?_))))))))))
             ·
              have h23 := eq_of_beq bh23
              refine UU 27 [(133, B true)] (ENDOPS (NEXT (IFT (by kernel_rfl) (SEQ (RG (UU 1 [(2, B false)] (ENDOPS (NEXT (RF rfl (.bool false) () [] ?_ ?_)))))))))
              · (first | (exact congrArg Value.bool (houseOk_t ⟨by assumption, by assumption, by assumption, by omega, by omega, hpp, ⟨fun i x h9 => by rw [hcl]; exact htt i x h9, fun x h9 => by rw [hcl, hw1]; exact hjj x h9, by omega⟩, hcc⟩).symm) | (refine congrArg Value.bool (houseOk_f fun hw9 => ?_).symm; obtain ⟨w1, w2, w3, w4, w5, w6, w7, w8⟩ := hw9; first | (exact absurd (w1.symm.trans (show rulesOk ho.rules = false by assumption)) (by decide)) | (exact absurd (w2.symm.trans (show inB ho.now 0 1000000 = false by assumption)) (by decide)) | (exact absurd (w3.symm.trans (show inB ho.turn 1 1000001 = false by assumption)) (by decide)) | omega | (have w9 := w7.2.2; omega) | (have wp := partiesP_iff.1 w6; first | (have w6 := (wp k _ hx_y8).1.1; simp_all; done) | (have w6 := (wp k _ hx_y8).1.2.1; omega) | (have w6 := (wp k _ hx_y8).1.2.2 (by omega) _ hx14; omega) | (have w6 := (wp k _ hx_y8).2 j _ (by omega) (take_get hx21).2; omega)) | (exact absurd ((w8 k _ hx_y8).2.1.symm.trans (show agrees ho.rules y8 ho.parties (k : Int) ho.now = false by assumption)) (by decide)) | (have w9 := (w8 k _ hx_y8).2.2; omega) | (have wj := w7; have wn : wr ((ho.cabins.length : Int) - 1) = wr ((ho.rules.seats.length : Int) - 1) := (by rw [w5]); first | (have w6 := (wj.1 k _ hx_y8).1; rw [wn] at w6; exact absurd (w6.symm.trans (show inB y8 0 (wr ((ho.rules.seats.length : Int) - 1)) = false by assumption)) (by decide)) | (exact Exists.elim ((any_take' (l := ho.todo) (k := k) (x := y8)).1 (by assumption)) fun j9 h9 => Exists.elim h9 fun z9 h9 => (wj.1 k _ hx_y8).2 j9 z9 h9.1 h9.2.1 h9.2.2) | (have w6 := wj.2.1 _ (List.mem_of_getElem? hx_y8); rw [wn, hw1] at w6; exact absurd (w6.symm.trans (show inB y8 (-1) ((ho.rules.seats.length - 1 : Nat) : Int) = false by assumption)) (by decide)))))
              · rfl
             ·
              have h23 := ne_of_beq_false bh23
              refine UU 6 [(112, B (decide (y8.turn < x20.turn)))] (SP 112 (decide (y8.turn < x20.turn)) (fun bh24 => ?_) (fun bh24 => ?_))
              ·
               have h24 := of_decide_eq_true bh24
               refine UU 8 [(120, B (decide (y8.since > x20.since)))] (SP 120 (decide (y8.since > x20.since)) (fun bh25 => ?_) (fun bh25 => ?_))
               ·
                have h25 := of_decide_eq_true bh25
                refine UU 13 [(133, B true)] (ENDOPS (NEXT (IFT (by kernel_rfl) (SEQ (RG (UU 1 [(2, B false)] (ENDOPS (NEXT (RF rfl (.bool false) () [] ?_ ?_)))))))))
                · (first | (exact congrArg Value.bool (houseOk_t ⟨by assumption, by assumption, by assumption, by omega, by omega, hpp, ⟨fun i x h9 => by rw [hcl]; exact htt i x h9, fun x h9 => by rw [hcl, hw1]; exact hjj x h9, by omega⟩, hcc⟩).symm) | (refine congrArg Value.bool (houseOk_f fun hw9 => ?_).symm; obtain ⟨w1, w2, w3, w4, w5, w6, w7, w8⟩ := hw9; first | (exact absurd (w1.symm.trans (show rulesOk ho.rules = false by assumption)) (by decide)) | (exact absurd (w2.symm.trans (show inB ho.now 0 1000000 = false by assumption)) (by decide)) | (exact absurd (w3.symm.trans (show inB ho.turn 1 1000001 = false by assumption)) (by decide)) | omega | (have w9 := w7.2.2; omega) | (have wp := partiesP_iff.1 w6; first | (have w6 := (wp k _ hx_y8).1.1; simp_all; done) | (have w6 := (wp k _ hx_y8).1.2.1; omega) | (have w6 := (wp k _ hx_y8).1.2.2 (by omega) _ hx14; omega) | (have w6 := (wp k _ hx_y8).2 j _ (by omega) (take_get hx21).2; omega)) | (exact absurd ((w8 k _ hx_y8).2.1.symm.trans (show agrees ho.rules y8 ho.parties (k : Int) ho.now = false by assumption)) (by decide)) | (have w9 := (w8 k _ hx_y8).2.2; omega) | (have wj := w7; have wn : wr ((ho.cabins.length : Int) - 1) = wr ((ho.rules.seats.length : Int) - 1) := (by rw [w5]); first | (have w6 := (wj.1 k _ hx_y8).1; rw [wn] at w6; exact absurd (w6.symm.trans (show inB y8 0 (wr ((ho.rules.seats.length : Int) - 1)) = false by assumption)) (by decide)) | (exact Exists.elim ((any_take' (l := ho.todo) (k := k) (x := y8)).1 (by assumption)) fun j9 h9 => Exists.elim h9 fun z9 h9 => (wj.1 k _ hx_y8).2 j9 z9 h9.1 h9.2.1 h9.2.2) | (have w6 := wj.2.1 _ (List.mem_of_getElem? hx_y8); rw [wn, hw1] at w6; exact absurd (w6.symm.trans (show inB y8 (-1) ((ho.rules.seats.length - 1 : Nat) : Int) = false by assumption)) (by decide)))))
                · rfl
               ·
                have h25 := of_decide_eq_false bh25
                refine UU 6 [(126, B (decide (x20.turn < y8.turn)))] (SP 126 (decide (x20.turn < y8.turn)) (fun bh26 => ?_) (fun bh26 => ?_))
                ·
                 have h26 := of_decide_eq_true bh26
                 refine UU 7 [(133, B (decide (x20.since > y8.since)))] (NI (decide (x20.since > y8.since)) (fun bh27 => ?_) (fun bh27 => ?_))
                 ·
                  have h27 := of_decide_eq_true bh27
                  refine SEQ (RG (UU 1 [(2, B false)] (ENDOPS (NEXT (RF rfl (.bool false) () [] ?_ ?_)))))
                  · (first | (exact congrArg Value.bool (houseOk_t ⟨by assumption, by assumption, by assumption, by omega, by omega, hpp, ⟨fun i x h9 => by rw [hcl]; exact htt i x h9, fun x h9 => by rw [hcl, hw1]; exact hjj x h9, by omega⟩, hcc⟩).symm) | (refine congrArg Value.bool (houseOk_f fun hw9 => ?_).symm; obtain ⟨w1, w2, w3, w4, w5, w6, w7, w8⟩ := hw9; first | (exact absurd (w1.symm.trans (show rulesOk ho.rules = false by assumption)) (by decide)) | (exact absurd (w2.symm.trans (show inB ho.now 0 1000000 = false by assumption)) (by decide)) | (exact absurd (w3.symm.trans (show inB ho.turn 1 1000001 = false by assumption)) (by decide)) | omega | (have w9 := w7.2.2; omega) | (have wp := partiesP_iff.1 w6; first | (have w6 := (wp k _ hx_y8).1.1; simp_all; done) | (have w6 := (wp k _ hx_y8).1.2.1; omega) | (have w6 := (wp k _ hx_y8).1.2.2 (by omega) _ hx14; omega) | (have w6 := (wp k _ hx_y8).2 j _ (by omega) (take_get hx21).2; omega)) | (exact absurd ((w8 k _ hx_y8).2.1.symm.trans (show agrees ho.rules y8 ho.parties (k : Int) ho.now = false by assumption)) (by decide)) | (have w9 := (w8 k _ hx_y8).2.2; omega) | (have wj := w7; have wn : wr ((ho.cabins.length : Int) - 1) = wr ((ho.rules.seats.length : Int) - 1) := (by rw [w5]); first | (have w6 := (wj.1 k _ hx_y8).1; rw [wn] at w6; exact absurd (w6.symm.trans (show inB y8 0 (wr ((ho.rules.seats.length : Int) - 1)) = false by assumption)) (by decide)) | (exact Exists.elim ((any_take' (l := ho.todo) (k := k) (x := y8)).1 (by assumption)) fun j9 h9 => Exists.elim h9 fun z9 h9 => (wj.1 k _ hx_y8).2 j9 z9 h9.1 h9.2.1 h9.2.2) | (have w6 := wj.2.1 _ (List.mem_of_getElem? hx_y8); rw [wn, hw1] at w6; exact absurd (w6.symm.trans (show inB y8 (-1) ((ho.rules.seats.length - 1 : Nat) : Int) = false by assumption)) (by decide)))))
                  · rfl
                 ·
                  have h27 := of_decide_eq_false bh27
                  refine SKIP (OUTN (NEXT (RG (UU 1 [(134, I (wr ((j : Int) + 1)))] (CS 134 (vi (wr ((j : Int) + 1))) (vi ((j + 1 : Nat) : Int)) (vi_cast (by omega) (by omega)) (UU 1 [(97, I ((j + 1 : Nat) : Int))] (ENDOPS (BK (j + 1) [1, 3, 5, 55, 56, 57, 95, 96, 97] 2 [] ⟨by first | omega | (dsimp only; omega), fun m q hm hq => by by_cases h9 : m = j; (subst h9; rw [(take_get hx21).2] at hq; injection hq with hq; subst hq; exact ⟨by omega, by omega, by omega⟩); exact hpi m q (by omega) hq⟩ (by first | omega | (dsimp only; omega))))))))))
                ·
                 have h26 := of_decide_eq_false bh26
                 refine UU 7 [(133, B false)] (ENDOPS (NEXT (IFF (by kernel_rfl) (SKIP (OUTN (NEXT (RG (UU 1 [(134, I (wr ((j : Int) + 1)))] (CS 134 (vi (wr ((j : Int) + 1))) (vi ((j + 1 : Nat) : Int)) (vi_cast (by omega) (by omega)) (UU 1 [(97, I ((j + 1 : Nat) : Int))] (ENDOPS (BK (j + 1) [1, 3, 5, 55, 56, 57, 95, 96, 97] 2 [] ⟨by first | omega | (dsimp only; omega), fun m q hm hq => by by_cases h9 : m = j; (subst h9; rw [(take_get hx21).2] at hq; injection hq with hq; subst hq; exact ⟨by omega, by omega, by omega⟩); exact hpi m q (by omega) hq⟩ (by first | omega | (dsimp only; omega))))))))))))))
              ·
               have h24 := of_decide_eq_false bh24
               refine UU 14 [(120, B false), (126, B (decide (x20.turn < y8.turn)))] (SP 126 (decide (x20.turn < y8.turn)) (fun bh28 => ?_) (fun bh28 => ?_))
               ·
                have h28 := of_decide_eq_true bh28
                refine UU 7 [(133, B (decide (x20.since > y8.since)))] (NI (decide (x20.since > y8.since)) (fun bh29 => ?_) (fun bh29 => ?_))
                ·
                 have h29 := of_decide_eq_true bh29
                 refine SEQ (RG (UU 1 [(2, B false)] (ENDOPS (NEXT (RF rfl (.bool false) () [] ?_ ?_)))))
                 · (first | (exact congrArg Value.bool (houseOk_t ⟨by assumption, by assumption, by assumption, by omega, by omega, hpp, ⟨fun i x h9 => by rw [hcl]; exact htt i x h9, fun x h9 => by rw [hcl, hw1]; exact hjj x h9, by omega⟩, hcc⟩).symm) | (refine congrArg Value.bool (houseOk_f fun hw9 => ?_).symm; obtain ⟨w1, w2, w3, w4, w5, w6, w7, w8⟩ := hw9; first | (exact absurd (w1.symm.trans (show rulesOk ho.rules = false by assumption)) (by decide)) | (exact absurd (w2.symm.trans (show inB ho.now 0 1000000 = false by assumption)) (by decide)) | (exact absurd (w3.symm.trans (show inB ho.turn 1 1000001 = false by assumption)) (by decide)) | omega | (have w9 := w7.2.2; omega) | (have wp := partiesP_iff.1 w6; first | (have w6 := (wp k _ hx_y8).1.1; simp_all; done) | (have w6 := (wp k _ hx_y8).1.2.1; omega) | (have w6 := (wp k _ hx_y8).1.2.2 (by omega) _ hx14; omega) | (have w6 := (wp k _ hx_y8).2 j _ (by omega) (take_get hx21).2; omega)) | (exact absurd ((w8 k _ hx_y8).2.1.symm.trans (show agrees ho.rules y8 ho.parties (k : Int) ho.now = false by assumption)) (by decide)) | (have w9 := (w8 k _ hx_y8).2.2; omega) | (have wj := w7; have wn : wr ((ho.cabins.length : Int) - 1) = wr ((ho.rules.seats.length : Int) - 1) := (by rw [w5]); first | (have w6 := (wj.1 k _ hx_y8).1; rw [wn] at w6; exact absurd (w6.symm.trans (show inB y8 0 (wr ((ho.rules.seats.length : Int) - 1)) = false by assumption)) (by decide)) | (exact Exists.elim ((any_take' (l := ho.todo) (k := k) (x := y8)).1 (by assumption)) fun j9 h9 => Exists.elim h9 fun z9 h9 => (wj.1 k _ hx_y8).2 j9 z9 h9.1 h9.2.1 h9.2.2) | (have w6 := wj.2.1 _ (List.mem_of_getElem? hx_y8); rw [wn, hw1] at w6; exact absurd (w6.symm.trans (show inB y8 (-1) ((ho.rules.seats.length - 1 : Nat) : Int) = false by assumption)) (by decide)))))
                 · rfl
                ·
                 have h29 := of_decide_eq_false bh29
                 refine SKIP (OUTN (NEXT (RG (UU 1 [(134, I (wr ((j : Int) + 1)))] (CS 134 (vi (wr ((j : Int) + 1))) (vi ((j + 1 : Nat) : Int)) (vi_cast (by omega) (by omega)) (UU 1 [(97, I ((j + 1 : Nat) : Int))] (ENDOPS (BK (j + 1) [1, 3, 5, 55, 56, 57, 95, 96, 97] 2 [] ⟨by first | omega | (dsimp only; omega), fun m q hm hq => by by_cases h9 : m = j; (subst h9; rw [(take_get hx21).2] at hq; injection hq with hq; subst hq; exact ⟨by omega, by omega, by omega⟩); exact hpi m q (by omega) hq⟩ (by first | omega | (dsimp only; omega))))))))))
               ·
                have h28 := of_decide_eq_false bh28
                refine UU 7 [(133, B false)] (ENDOPS (NEXT (IFF (by kernel_rfl) (SKIP (OUTN (NEXT (RG (UU 1 [(134, I (wr ((j : Int) + 1)))] (CS 134 (vi (wr ((j : Int) + 1))) (vi ((j + 1 : Nat) : Int)) (vi_cast (by omega) (by omega)) (UU 1 [(97, I ((j + 1 : Nat) : Int))] (ENDOPS (BK (j + 1) [1, 3, 5, 55, 56, 57, 95, 96, 97] 2 [] ⟨by first | omega | (dsimp only; omega), fun m q hm hq => by by_cases h9 : m = j; (subst h9; rw [(take_get hx21).2] at hq; injection hq with hq; subst hq; exact ⟨by omega, by omega, by omega⟩); exact hpi m q (by omega) hq⟩ (by first | omega | (dsimp only; omega))))))))))))))
            ·
             have h19 := of_decide_eq_false bh19
             refine EXIT (PASS trivial (PASS trivial (OUT (OUTN (NEXT (RG (UU 1 [(135, I (wr ((k : Int) + 1)))] (CS 135 (vi (wr ((k : Int) + 1))) (vi ((k + 1 : Nat) : Int)) (vi_cast (by omega) (by omega)) (UU 1 [(57, I ((k + 1 : Nat) : Int))] (ENDOPS (BK (k + 1, ys9) [1, 3, 55, 56, 57] 1 [] ⟨hl_y8, hd_y8, (fun i p hi hp => by by_cases h9 : i = k; (subst h9; rw [hx_y8] at hp; injection hp with hp; subst hp; exact ⟨⟨by assumption, by omega, fun h0 q hq => by rw [hx14] at hq; injection hq with hq; subst hq; omega⟩, (by have hjk : j = i := (by omega); rw [← hjk]; exact hpi)⟩); exact hv0 i p (by omega) hp)⟩ (by simp))))))))))))
          ·
           have h12 := of_decide_eq_false bh12
           refine QU 12 [(91, B false)] (QEND rfl (NEXT (IFF (by kernel_rfl) (SKIP (NEXT (SEQ (RG (UU 3 [(93, .v (.slice ho_parties_a ho.parties.length ho_parties_c)), (94, I (k : Int))] (OPC (CUTH 27 (.tmp 93) (.tmp 94) 95 27 (by kernel_rfl) (NL rfl) ho_parties_a ho.parties.length ho_parties_c .i64 (k : Int) (by kernel_rfl) (by kernel_rfl) 50 partyL ho.parties (by kernel_rfl) (by kernel_rfl) (by omega) (by first | omega | (simp only [List.length_append, List.length_cons, List.length_nil, List.length_take, List.length_drop] at *; omega)) rfl (by omega) (fun a30 hsh31 => ?_)))))))))))
           have hsh31 : ∀ w, Rd partyL w ho_parties_a ho.parties → Rd partyL w a30 (ho.parties.take k) := hsh31
           have hln32 : (ho.parties.take k).length = k := by first | (simp; done) | (simp; omega)
           refine CS 95 (.slice a30 k ho_parties_c) (.slice a30 ((ho.parties.take k).length) ho_parties_c) (by rw [hln32]) (UU 2 [(96, I (((ho.parties.take k).length : Nat) : Int)), (97, I 0)] (ENDOPS (NEXT (BLOCK (LOOP (ι := Nat) (fun j => [(1, .p 0 0), (3, I (ho.rules.seats.length : Int)), (5, .p 1 0), (55, .v (.slice ho_parties_a ho.parties.length ho_parties_c)), (56, I (ho.parties.length : Int)), (57, I (k : Int)), (95, .v (.slice a30 ((ho.parties.take k).length) ho_parties_c)), (96, I (((ho.parties.take k).length : Nat) : Int)), (97, I (j : Int))]) (fun j => [(30, (hC ho ho_rules_seats_a ho_rules_seats_c ho_parties_a ho_parties_c ho_cabins_a ho_cabins_c ho_todo_a ho_todo_c ho_jobs_a ho_jobs_c)), (50, partyE y8)]) (fun j => []) (fun j => j ≤ k ∧ PartyI ho y8 j) (fun j => k - j) (0) [1, 3, 5, 55, 56, 57, 95, 96, 97] ⟨Nat.zero_le _, fun m q hm => absurd hm (Nat.not_lt_zero _)⟩ (by kernel_rfl) rfl rfl ?_)))))
           rintro j ⟨hj, hpi⟩
           try dsimp only at hj hpi
           refine SEQ (RG (UU 1 [(98, B (decide ((j : Int) < (((ho.parties.take k).length : Nat) : Int))))] (ENDOPS (NEXT (SEQ (IFK (decide ((j : Int) < (((ho.parties.take k).length : Nat) : Int))) (fun bh33 => ?_) (fun bh33 => ?_)))))))
           ·
            have h33 := of_decide_eq_true bh33
            refine SKIP (NEXT (SEQ (BLOCK (SEQ (RG ?_)))))
            obtain ⟨x34, hx35⟩ : ∃ y, (ho.parties.take k)[j]? = some y := ⟨_, List.getElem?_eq_getElem (by omega)⟩
            refine FACT (a30.isSome = true) (fun w hw => Rd.some (hsh31 _ (hho_parties.fr hw.fr)) (by omega)) (fun hs36 => (OPC (IX 27 (.tmp 95) (.tmp 97) 99 0 a30 ((ho.parties.take k).length) ho_parties_c .i64 (j : Int) 50 10 hs36 (by omega) (by omega) (OPC (LE 50 (.tmp 99) 100 50 a30 (j * 10) 0 (partyE x34) (.agg (partyE x34).toArray) (fun w hw => (hsh31 _ (hho_parties.fr hw.fr)).flat hx35) (UL 2 [(7, .p 2 0)] [(30, (hC ho ho_rules_seats_a ho_rules_seats_c ho_parties_a ho_parties_c ho_cabins_a ho_cabins_c ho_todo_a ho_todo_c ho_jobs_a ho_jobs_c)), (50, partyE y8), (50, partyE x34)] (NR (UU 6 [(106, B (y8.turn == x34.turn))] (SP 106 (y8.turn == x34.turn) (fun bh37 => ?_) (fun bh37 => ?_))))))))))
            ·
             have h37 := eq_of_beq bh37
             refine UU 27 [(133, B true)] (ENDOPS (NEXT (IFT (by kernel_rfl) (SEQ (RG (UU 1 [(2, B false)] (ENDOPS (NEXT (RF rfl (.bool false) () [] ?_ ?_)))))))))
             · (first | (exact congrArg Value.bool (houseOk_t ⟨by assumption, by assumption, by assumption, by omega, by omega, hpp, ⟨fun i x h9 => by rw [hcl]; exact htt i x h9, fun x h9 => by rw [hcl, hw1]; exact hjj x h9, by omega⟩, hcc⟩).symm) | (refine congrArg Value.bool (houseOk_f fun hw9 => ?_).symm; obtain ⟨w1, w2, w3, w4, w5, w6, w7, w8⟩ := hw9; first | (exact absurd (w1.symm.trans (show rulesOk ho.rules = false by assumption)) (by decide)) | (exact absurd (w2.symm.trans (show inB ho.now 0 1000000 = false by assumption)) (by decide)) | (exact absurd (w3.symm.trans (show inB ho.turn 1 1000001 = false by assumption)) (by decide)) | omega | (have w9 := w7.2.2; omega) | (have wp := partiesP_iff.1 w6; first | (have w6 := (wp k _ hx_y8).1.1; simp_all; done) | (have w6 := (wp k _ hx_y8).1.2.1; omega) | (have w6 := (wp k _ hx_y8).2 j _ (by omega) (take_get hx35).2; omega)) | (exact absurd ((w8 k _ hx_y8).2.1.symm.trans (show agrees ho.rules y8 ho.parties (k : Int) ho.now = false by assumption)) (by decide)) | (have w9 := (w8 k _ hx_y8).2.2; omega) | (have wj := w7; have wn : wr ((ho.cabins.length : Int) - 1) = wr ((ho.rules.seats.length : Int) - 1) := (by rw [w5]); first | (have w6 := (wj.1 k _ hx_y8).1; rw [wn] at w6; exact absurd (w6.symm.trans (show inB y8 0 (wr ((ho.rules.seats.length : Int) - 1)) = false by assumption)) (by decide)) | (exact Exists.elim ((any_take' (l := ho.todo) (k := k) (x := y8)).1 (by assumption)) fun j9 h9 => Exists.elim h9 fun z9 h9 => (wj.1 k _ hx_y8).2 j9 z9 h9.1 h9.2.1 h9.2.2) | (have w6 := wj.2.1 _ (List.mem_of_getElem? hx_y8); rw [wn, hw1] at w6; exact absurd (w6.symm.trans (show inB y8 (-1) ((ho.rules.seats.length - 1 : Nat) : Int) = false by assumption)) (by decide)))))
             · rfl
            ·
             have h37 := ne_of_beq_false bh37
             refine UU 6 [(112, B (decide (y8.turn < x34.turn)))] (SP 112 (decide (y8.turn < x34.turn)) (fun bh38 => ?_) (fun bh38 => ?_))
             ·
              have h38 := of_decide_eq_true bh38
              refine UU 8 [(120, B (decide (y8.since > x34.since)))] (SP 120 (decide (y8.since > x34.since)) (fun bh39 => ?_) (fun bh39 => ?_))
              ·
               have h39 := of_decide_eq_true bh39
               refine UU 13 [(133, B true)] (ENDOPS (NEXT (IFT (by kernel_rfl) (SEQ (RG (UU 1 [(2, B false)] (ENDOPS (NEXT (RF rfl (.bool false) () [] ?_ ?_)))))))))
               · (first | (exact congrArg Value.bool (houseOk_t ⟨by assumption, by assumption, by assumption, by omega, by omega, hpp, ⟨fun i x h9 => by rw [hcl]; exact htt i x h9, fun x h9 => by rw [hcl, hw1]; exact hjj x h9, by omega⟩, hcc⟩).symm) | (refine congrArg Value.bool (houseOk_f fun hw9 => ?_).symm; obtain ⟨w1, w2, w3, w4, w5, w6, w7, w8⟩ := hw9; first | (exact absurd (w1.symm.trans (show rulesOk ho.rules = false by assumption)) (by decide)) | (exact absurd (w2.symm.trans (show inB ho.now 0 1000000 = false by assumption)) (by decide)) | (exact absurd (w3.symm.trans (show inB ho.turn 1 1000001 = false by assumption)) (by decide)) | omega | (have w9 := w7.2.2; omega) | (have wp := partiesP_iff.1 w6; first | (have w6 := (wp k _ hx_y8).1.1; simp_all; done) | (have w6 := (wp k _ hx_y8).1.2.1; omega) | (have w6 := (wp k _ hx_y8).2 j _ (by omega) (take_get hx35).2; omega)) | (exact absurd ((w8 k _ hx_y8).2.1.symm.trans (show agrees ho.rules y8 ho.parties (k : Int) ho.now = false by assumption)) (by decide)) | (have w9 := (w8 k _ hx_y8).2.2; omega) | (have wj := w7; have wn : wr ((ho.cabins.length : Int) - 1) = wr ((ho.rules.seats.length : Int) - 1) := (by rw [w5]); first | (have w6 := (wj.1 k _ hx_y8).1; rw [wn] at w6; exact absurd (w6.symm.trans (show inB y8 0 (wr ((ho.rules.seats.length : Int) - 1)) = false by assumption)) (by decide)) | (exact Exists.elim ((any_take' (l := ho.todo) (k := k) (x := y8)).1 (by assumption)) fun j9 h9 => Exists.elim h9 fun z9 h9 => (wj.1 k _ hx_y8).2 j9 z9 h9.1 h9.2.1 h9.2.2) | (have w6 := wj.2.1 _ (List.mem_of_getElem? hx_y8); rw [wn, hw1] at w6; exact absurd (w6.symm.trans (show inB y8 (-1) ((ho.rules.seats.length - 1 : Nat) : Int) = false by assumption)) (by decide)))))
               · rfl
              ·
               have h39 := of_decide_eq_false bh39
               refine UU 6 [(126, B (decide (x34.turn < y8.turn)))] (SP 126 (decide (x34.turn < y8.turn)) (fun bh40 => ?_) (fun bh40 => ?_))
               ·
                have h40 := of_decide_eq_true bh40
                refine UU 7 [(133, B (decide (x34.since > y8.since)))] (NI (decide (x34.since > y8.since)) (fun bh41 => ?_) (fun bh41 => ?_))
                ·
                 have h41 := of_decide_eq_true bh41
                 refine SEQ (RG (UU 1 [(2, B false)] (ENDOPS (NEXT (RF rfl (.bool false) () [] ?_ ?_)))))
                 · (first | (exact congrArg Value.bool (houseOk_t ⟨by assumption, by assumption, by assumption, by omega, by omega, hpp, ⟨fun i x h9 => by rw [hcl]; exact htt i x h9, fun x h9 => by rw [hcl, hw1]; exact hjj x h9, by omega⟩, hcc⟩).symm) | (refine congrArg Value.bool (houseOk_f fun hw9 => ?_).symm; obtain ⟨w1, w2, w3, w4, w5, w6, w7, w8⟩ := hw9; first | (exact absurd (w1.symm.trans (show rulesOk ho.rules = false by assumption)) (by decide)) | (exact absurd (w2.symm.trans (show inB ho.now 0 1000000 = false by assumption)) (by decide)) | (exact absurd (w3.symm.trans (show inB ho.turn 1 1000001 = false by assumption)) (by decide)) | omega | (have w9 := w7.2.2; omega) | (have wp := partiesP_iff.1 w6; first | (have w6 := (wp k _ hx_y8).1.1; simp_all; done) | (have w6 := (wp k _ hx_y8).1.2.1; omega) | (have w6 := (wp k _ hx_y8).2 j _ (by omega) (take_get hx35).2; omega)) | (exact absurd ((w8 k _ hx_y8).2.1.symm.trans (show agrees ho.rules y8 ho.parties (k : Int) ho.now = false by assumption)) (by decide)) | (have w9 := (w8 k _ hx_y8).2.2; omega) | (have wj := w7; have wn : wr ((ho.cabins.length : Int) - 1) = wr ((ho.rules.seats.length : Int) - 1) := (by rw [w5]); first | (have w6 := (wj.1 k _ hx_y8).1; rw [wn] at w6; exact absurd (w6.symm.trans (show inB y8 0 (wr ((ho.rules.seats.length : Int) - 1)) = false by assumption)) (by decide)) | (exact Exists.elim ((any_take' (l := ho.todo) (k := k) (x := y8)).1 (by assumption)) fun j9 h9 => Exists.elim h9 fun z9 h9 => (wj.1 k _ hx_y8).2 j9 z9 h9.1 h9.2.1 h9.2.2) | (have w6 := wj.2.1 _ (List.mem_of_getElem? hx_y8); rw [wn, hw1] at w6; exact absurd (w6.symm.trans (show inB y8 (-1) ((ho.rules.seats.length - 1 : Nat) : Int) = false by assumption)) (by decide)))))
                 · rfl
                ·
                 have h41 := of_decide_eq_false bh41
                 refine SKIP (OUTN (NEXT (RG (UU 1 [(134, I (wr ((j : Int) + 1)))] (CS 134 (vi (wr ((j : Int) + 1))) (vi ((j + 1 : Nat) : Int)) (vi_cast (by omega) (by omega)) (UU 1 [(97, I ((j + 1 : Nat) : Int))] (ENDOPS (BK (j + 1) [1, 3, 5, 55, 56, 57, 95, 96, 97] 2 [] ⟨by first | omega | (dsimp only; omega), fun m q hm hq => by by_cases h9 : m = j; (subst h9; rw [(take_get hx35).2] at hq; injection hq with hq; subst hq; exact ⟨by omega, by omega, by omega⟩); exact hpi m q (by omega) hq⟩ (by first | omega | (dsimp only; omega))))))))))
               ·
                have h40 := of_decide_eq_false bh40
                refine UU 7 [(133, B false)] (ENDOPS (NEXT (IFF (by kernel_rfl) (SKIP (OUTN (NEXT (RG (UU 1 [(134, I (wr ((j : Int) + 1)))] (CS 134 (vi (wr ((j : Int) + 1))) (vi ((j + 1 : Nat) : Int)) (vi_cast (by omega) (by omega)) (UU 1 [(97, I ((j + 1 : Nat) : Int))] (ENDOPS (BK (j + 1) [1, 3, 5, 55, 56, 57, 95, 96, 97] 2 [] ⟨by first | omega | (dsimp only; omega), fun m q hm hq => by by_cases h9 : m = j; (subst h9; rw [(take_get hx35).2] at hq; injection hq with hq; subst hq; exact ⟨by omega, by omega, by omega⟩); exact hpi m q (by omega) hq⟩ (by first | omega | (dsimp only; omega))))))))))))))
             ·
              have h38 := of_decide_eq_false bh38
              refine UU 14 [(120, B false), (126, B (decide (x34.turn < y8.turn)))] (SP 126 (decide (x34.turn < y8.turn)) (fun bh42 => ?_) (fun bh42 => ?_))
              ·
               have h42 := of_decide_eq_true bh42
               refine UU 7 [(133, B (decide (x34.since > y8.since)))] (NI (decide (x34.since > y8.since)) (fun bh43 => ?_) (fun bh43 => ?_))
               ·
                have h43 := of_decide_eq_true bh43
                refine SEQ (RG (UU 1 [(2, B false)] (ENDOPS (NEXT (RF rfl (.bool false) () [] ?_ ?_)))))
                · (first | (exact congrArg Value.bool (houseOk_t ⟨by assumption, by assumption, by assumption, by omega, by omega, hpp, ⟨fun i x h9 => by rw [hcl]; exact htt i x h9, fun x h9 => by rw [hcl, hw1]; exact hjj x h9, by omega⟩, hcc⟩).symm) | (refine congrArg Value.bool (houseOk_f fun hw9 => ?_).symm; obtain ⟨w1, w2, w3, w4, w5, w6, w7, w8⟩ := hw9; first | (exact absurd (w1.symm.trans (show rulesOk ho.rules = false by assumption)) (by decide)) | (exact absurd (w2.symm.trans (show inB ho.now 0 1000000 = false by assumption)) (by decide)) | (exact absurd (w3.symm.trans (show inB ho.turn 1 1000001 = false by assumption)) (by decide)) | omega | (have w9 := w7.2.2; omega) | (have wp := partiesP_iff.1 w6; first | (have w6 := (wp k _ hx_y8).1.1; simp_all; done) | (have w6 := (wp k _ hx_y8).1.2.1; omega) | (have w6 := (wp k _ hx_y8).2 j _ (by omega) (take_get hx35).2; omega)) | (exact absurd ((w8 k _ hx_y8).2.1.symm.trans (show agrees ho.rules y8 ho.parties (k : Int) ho.now = false by assumption)) (by decide)) | (have w9 := (w8 k _ hx_y8).2.2; omega) | (have wj := w7; have wn : wr ((ho.cabins.length : Int) - 1) = wr ((ho.rules.seats.length : Int) - 1) := (by rw [w5]); first | (have w6 := (wj.1 k _ hx_y8).1; rw [wn] at w6; exact absurd (w6.symm.trans (show inB y8 0 (wr ((ho.rules.seats.length : Int) - 1)) = false by assumption)) (by decide)) | (exact Exists.elim ((any_take' (l := ho.todo) (k := k) (x := y8)).1 (by assumption)) fun j9 h9 => Exists.elim h9 fun z9 h9 => (wj.1 k _ hx_y8).2 j9 z9 h9.1 h9.2.1 h9.2.2) | (have w6 := wj.2.1 _ (List.mem_of_getElem? hx_y8); rw [wn, hw1] at w6; exact absurd (w6.symm.trans (show inB y8 (-1) ((ho.rules.seats.length - 1 : Nat) : Int) = false by assumption)) (by decide)))))
                · rfl
               ·
                have h43 := of_decide_eq_false bh43
                refine SKIP (OUTN (NEXT (RG (UU 1 [(134, I (wr ((j : Int) + 1)))] (CS 134 (vi (wr ((j : Int) + 1))) (vi ((j + 1 : Nat) : Int)) (vi_cast (by omega) (by omega)) (UU 1 [(97, I ((j + 1 : Nat) : Int))] (ENDOPS (BK (j + 1) [1, 3, 5, 55, 56, 57, 95, 96, 97] 2 [] ⟨by first | omega | (dsimp only; omega), fun m q hm hq => by by_cases h9 : m = j; (subst h9; rw [(take_get hx35).2] at hq; injection hq with hq; subst hq; exact ⟨by omega, by omega, by omega⟩); exact hpi m q (by omega) hq⟩ (by first | omega | (dsimp only; omega))))))))))
              ·
               have h42 := of_decide_eq_false bh42
               refine UU 7 [(133, B false)] (ENDOPS (NEXT (IFF (by kernel_rfl) (SKIP (OUTN (NEXT (RG (UU 1 [(134, I (wr ((j : Int) + 1)))] (CS 134 (vi (wr ((j : Int) + 1))) (vi ((j + 1 : Nat) : Int)) (vi_cast (by omega) (by omega)) (UU 1 [(97, I ((j + 1 : Nat) : Int))] (ENDOPS (BK (j + 1) [1, 3, 5, 55, 56, 57, 95, 96, 97] 2 [] ⟨by first | omega | (dsimp only; omega), fun m q hm hq => by by_cases h9 : m = j; (subst h9; rw [(take_get hx35).2] at hq; injection hq with hq; subst hq; exact ⟨by omega, by omega, by omega⟩); exact hpi m q (by omega) hq⟩ (by first | omega | (dsimp only; omega))))))))))))))
           ·
            have h33 := of_decide_eq_false bh33
            refine EXIT (PASS trivial (PASS trivial (OUT (OUTN (NEXT (RG (UU 1 [(135, I (wr ((k : Int) + 1)))] (CS 135 (vi (wr ((k : Int) + 1))) (vi ((k + 1 : Nat) : Int)) (vi_cast (by omega) (by omega)) (UU 1 [(57, I ((k + 1 : Nat) : Int))] (ENDOPS (BK (k + 1, ys9) [1, 3, 55, 56, 57] 1 [] ⟨hl_y8, hd_y8, (fun i p hi hp => by by_cases h9 : i = k; (subst h9; rw [hx_y8] at hp; injection hp with hp; subst hp; exact ⟨⟨by assumption, by omega, fun h0 q hq => absurd h0 (by omega)⟩, (by have hjk : j = i := (by omega); rw [← hjk]; exact hpi)⟩); exact hv0 i p (by omega) hp)⟩ (by simp))))))))))))
       ·
        have h7 := of_decide_eq_false bh7
        obtain rfl := drop_nil hk (by omega)
        have hpp : PartiesP ho := partiesP_iff.2 (fun i p hp => hv0 i p (by have := (List.getElem?_eq_some_iff.1 hp).1; simp at hk; omega) hp)
        refine EXIT (PASS trivial (PASS trivial (OUT (NEXT (SEQ (SEQ (RG (UU 4 [(137, .v (.slice ho_cabins_a ho.cabins.length ho_cabins_c)), (138, I (ho.cabins.length : Int)), (139, I 0)] (ENDOPS (NEXT (BLOCK (LOOP (ι := Nat × (List Cabin)) (fun j => [(1, .p 0 0), (3, I (ho.rules.seats.length : Int)), (137, .v (.slice ho_cabins_a ho.cabins.length ho_cabins_c)), (138, I (ho.cabins.length : Int)), (139, I (j.1 : Int))]) (fun j => [(30, (hC ho ho_rules_seats_a ho_rules_seats_c ho_parties_a ho_parties_c ho_cabins_a ho_cabins_c ho_todo_a ho_todo_c ho_jobs_a ho_jobs_c))]) (fun j => []) (fun j => j.1 + j.2.length = ho.cabins.length ∧ ho.cabins.drop j.1 = j.2 ∧ (∀ (i : Nat) (c : Cabin), i < j.1 → ho.cabins[i]? = some c → CabinH ho i c)) (fun j => j.2.length) (0, ho.cabins) [1, 3, 137, 138, 139] ⟨by simp, rfl, fun i c hi => absurd hi (Nat.not_lt_zero _)⟩ (by kernel_rfl) rfl rfl ?_))))))))))))
        rintro ⟨k, ys⟩ ⟨hk, hd, hv0⟩
        try dsimp only at hk hd hv0
        refine SEQ (RG (UU 1 [(140, B (decide ((k : Int) < (ho.cabins.length : Int))))] (ENDOPS (NEXT (SEQ (IFK (decide ((k : Int) < (ho.cabins.length : Int))) (fun bh44 => ?_) (fun bh44 => ?_)))))))
        ·
         have h44 := of_decide_eq_true bh44
         obtain ⟨y45, ys46, rfl, hx_y45, hd_y45, hl_y45⟩ := drop_cons hd hk (by omega)
         have hcz := hs4 _ (List.mem_of_getElem? hx_y45); have hcz1 := hcz.1; have hcz3 := hcz.2.2
         refine SKIP (NEXT (SEQ (BLOCK (SEQ (RG (UU 1 [(141, I (k : Int))] ?_))))))
         obtain ⟨a47, c48, a50, c51, hel53, hi49, hi52, hi49_cap, hi52_cap⟩ := cabin_view hho_cabins hx_y45
         have hi49_len := hi49.len
         have hi52_len := hi52.len
         refine OPC (IX 28 (.tmp 137) (.tmp 139) 142 0 ho_cabins_a ho.cabins.length ho_cabins_c .i64 (k : Int) 42 7 (Rd.some hho_cabins (by omega)) (by omega) (by omega) (OPC (LE 42 (.tmp 142) 143 42 ho_cabins_a (k * 7) 0 ([vi y45.seats.total, vi y45.seats.free, vi y45.seats.held, vi y45.seats.sold, vi y45.seats.tied, .slice a47 y45.row.length c48, .slice a50 y45.wheel.spoke.length c51]) (.agg #[vi y45.seats.total, vi y45.seats.free, vi y45.seats.held, vi y45.seats.sold, vi y45.seats.tied, .slice a47 y45.row.length c48, .slice a50 y45.wheel.spoke.length c51]) (fun w hw => hel53.fr hw.fr) (UL 3 [(8, I (k : Int)), (9, .p 1 0)] [(30, (hC ho ho_rules_seats_a ho_rules_seats_c ho_parties_a ho_parties_c ho_cabins_a ho_cabins_c ho_todo_a ho_todo_c ho_jobs_a ho_jobs_c)), (42, [vi y45.seats.total, vi y45.seats.free, vi y45.seats.held, vi y45.seats.sold, vi y45.seats.tied, .slice a47 y45.row.length c48, .slice a50 y45.wheel.spoke.length c51])] (ENDOPS (NEXT (SEQ (REGIONQ (by kernel_rfl) (by kernel_rfl) (QU 7 [(146, I y45.seats.total), (149, .v (.slice ho_rules_seats_a ho.rules.seats.length ho_rules_seats_c)), (150, I (k : Int))] ?_)))))))))
         obtain ⟨x54, hx55⟩ : ∃ y, ho.rules.seats[k]? = some y := ⟨_, List.getElem?_eq_getElem (by omega)⟩
         refine QIX 24 (.tmp 149) (.tmp 150) 151 0 ho_rules_seats_a ho.rules.seats.length ho_rules_seats_c .i64 (k : Int) 3 1 (Rd.some hho_rules_seats (by omega)) (by omega) (by omega) (QLE 3 (.tmp 151) 152 3 ho_rules_seats_a (k * 1) 0 ([vi x54]) (vi x54) (fun w hw => (hho_rules_seats.fr hw.fr).flat hx55) (QU 2 [(154, B (y45.seats.total != x54))] (QSP 154 (y45.seats.total != x54) (fun bh56 => ?_) (fun bh56 => ?_))))
         ·
          have h56 := bne_iff_ne.1 bh56
          refine QU 21 [(175, B true)] (QEND rfl (NEXT (IFT (by kernel_rfl) (SEQ (RG (UU 1 [(2, B false)] (ENDOPS (NEXT (RF rfl (.bool false) () [] ?_ ?_)))))))))
          · (first | (exact congrArg Value.bool (houseOk_t ⟨by assumption, by assumption, by assumption, by omega, by omega, hpp, ⟨fun i x h9 => by rw [hcl]; exact htt i x h9, fun x h9 => by rw [hcl, hw1]; exact hjj x h9, by omega⟩, hcc⟩).symm) | (refine congrArg Value.bool (houseOk_f fun hw9 => ?_).symm; obtain ⟨w1, w2, w3, w4, w5, w6, w7, w8⟩ := hw9; first | (exact absurd (w1.symm.trans (show rulesOk ho.rules = false by assumption)) (by decide)) | (exact absurd (w2.symm.trans (show inB ho.now 0 1000000 = false by assumption)) (by decide)) | (exact absurd (w3.symm.trans (show inB ho.turn 1 1000001 = false by assumption)) (by decide)) | omega | (have w9 := w7.2.2; omega) | (have wp := partiesP_iff.1 w6; first | (have w6 := (wp k _ hx_y45).1.1; simp_all; done) | (have w6 := (wp k _ hx_y45).1.2.1; omega)) | (have w9 := (w8 k _ hx_y45).1; rw [hx55] at w9; injection w9 with w9; omega) | (exact absurd ((w8 k _ hx_y45).2.1.symm.trans (show agrees ho.rules y45 ho.parties (k : Int) ho.now = false by assumption)) (by decide)) | (have w9 := (w8 k _ hx_y45).2.2; omega) | (have wj := w7; have wn : wr ((ho.cabins.length : Int) - 1) = wr ((ho.rules.seats.length : Int) - 1) := (by rw [w5]); first | (have w6 := (wj.1 k _ hx_y45).1; rw [wn] at w6; exact absurd (w6.symm.trans (show inB y45 0 (wr ((ho.rules.seats.length : Int) - 1)) = false by assumption)) (by decide)) | (exact Exists.elim ((any_take' (l := ho.todo) (k := k) (x := y45)).1 (by assumption)) fun j9 h9 => Exists.elim h9 fun z9 h9 => (wj.1 k _ hx_y45).2 j9 z9 h9.1 h9.2.1 h9.2.2) | (have w6 := wj.2.1 _ (List.mem_of_getElem? hx_y45); rw [wn, hw1] at w6; exact absurd (w6.symm.trans (show inB y45 (-1) ((ho.rules.seats.length - 1 : Nat) : Int) = false by assumption)) (by decide)))))
          · rfl
         ·
          have h56 := bneF bh56
          refine QU 3 [(156, .v (.slice ho_parties_a ho.parties.length ho_parties_c)), (157, I (k : Int))] (QCA 56 #[.slice ho_parties_a ho.parties.length ho_parties_c, vi (k : Int)] (some 158) (vi (countGo ho.parties (k : Int) 0)) (fun w hw => iCountIn_c w ho.parties ho_parties_a ho_parties_c (hho_parties.fr hw.fr) (k : Int)) (QU 6 [(164, B (decide ((countGo ho.parties (k : Int) 0) > ho.rules.room)))] (QSP 164 (decide ((countGo ho.parties (k : Int) 0) > ho.rules.room)) (fun bh57 => ?_) (fun bh57 => ?_))))
          ·
           have h57 := of_decide_eq_true bh57
           refine QU 11 [(175, B true)] (QEND rfl (NEXT (IFT (by kernel_rfl) (SEQ (RG (UU 1 [(2, B false)] (ENDOPS (NEXT (RF rfl (.bool false) () [] ?_ ?_)))))))))
           · (first | (exact congrArg Value.bool (houseOk_t ⟨by assumption, by assumption, by assumption, by omega, by omega, hpp, ⟨fun i x h9 => by rw [hcl]; exact htt i x h9, fun x h9 => by rw [hcl, hw1]; exact hjj x h9, by omega⟩, hcc⟩).symm) | (refine congrArg Value.bool (houseOk_f fun hw9 => ?_).symm; obtain ⟨w1, w2, w3, w4, w5, w6, w7, w8⟩ := hw9; first | (exact absurd (w1.symm.trans (show rulesOk ho.rules = false by assumption)) (by decide)) | (exact absurd (w2.symm.trans (show inB ho.now 0 1000000 = false by assumption)) (by decide)) | (exact absurd (w3.symm.trans (show inB ho.turn 1 1000001 = false by assumption)) (by decide)) | omega | (have w9 := w7.2.2; omega) | (have wp := partiesP_iff.1 w6; first | (have w6 := (wp k _ hx_y45).1.1; simp_all; done) | (have w6 := (wp k _ hx_y45).1.2.1; omega)) | (have w9 := (w8 k _ hx_y45).1; rw [hx55] at w9; injection w9 with w9; omega) | (exact absurd ((w8 k _ hx_y45).2.1.symm.trans (show agrees ho.rules y45 ho.parties (k : Int) ho.now = false by assumption)) (by decide)) | (have w9 := (w8 k _ hx_y45).2.2; omega) | (have wj := w7; have wn : wr ((ho.cabins.length : Int) - 1) = wr ((ho.rules.seats.length : Int) - 1) := (by rw [w5]); first | (have w6 := (wj.1 k _ hx_y45).1; rw [wn] at w6; exact absurd (w6.symm.trans (show inB y45 0 (wr ((ho.rules.seats.length : Int) - 1)) = false by assumption)) (by decide)) | (exact Exists.elim ((any_take' (l := ho.todo) (k := k) (x := y45)).1 (by assumption)) fun j9 h9 => Exists.elim h9 fun z9 h9 => (wj.1 k _ hx_y45).2 j9 z9 h9.1 h9.2.1 h9.2.2) | (have w6 := wj.2.1 _ (List.mem_of_getElem? hx_y45); rw [wn, hw1] at w6; exact absurd (w6.symm.trans (show inB y45 (-1) ((ho.rules.seats.length - 1 : Nat) : Int) = false by assumption)) (by decide)))))
           · rfl
          ·
           have h57 := of_decide_eq_false bh57
           have hq9 := queueRaw_len ho.rules (k : Int) ho.now ho.parties 0 (by omega) (by omega); have hp9 := pinsRaw_len (k : Int) ho.parties 0 (by omega) (by omega)
           refine QU 8 [(166, .v (.agg #[.slice ho_rules_seats_a ho.rules.seats.length ho_rules_seats_c, vi ho.rules.tiers, vi ho.rules.room, vi ho.rules.size, vi ho.rules.period, vi ho.rules.window, vi ho.rules.rest, vi ho.rules.tries, vi ho.rules.crew])), (167, .v (.agg #[vi y45.seats.total, vi y45.seats.free, vi y45.seats.held, vi y45.seats.sold, vi y45.seats.tied, .slice a47 y45.row.length c48, .slice a50 y45.wheel.spoke.length c51])), (169, .v (.slice ho_parties_a ho.parties.length ho_parties_c)), (170, I (k : Int)), (172, I ho.now)] (QCA 57 #[.agg #[.slice ho_rules_seats_a ho.rules.seats.length ho_rules_seats_c, vi ho.rules.tiers, vi ho.rules.room, vi ho.rules.size, vi ho.rules.period, vi ho.rules.window, vi ho.rules.rest, vi ho.rules.tries, vi ho.rules.crew], .agg #[vi y45.seats.total, vi y45.seats.free, vi y45.seats.held, vi y45.seats.sold, vi y45.seats.tied, .slice a47 y45.row.length c48, .slice a50 y45.wheel.spoke.length c51], .slice ho_parties_a ho.parties.length ho_parties_c, vi (k : Int), vi ho.now] (some 173) (.bool (agrees ho.rules y45 ho.parties (k : Int) ho.now)) (fun w hw => iAgrees_c w ho.rules ho_rules_seats_a ho_rules_seats_c (hho_rules_seats.fr hw.fr) y45 a47 c48 (hi49.fr hw.fr) a50 c51 (hi52.fr hw.fr) ho.parties ho_parties_a ho_parties_c (hho_parties.fr hw.fr) (k : Int) ho.now (by first | assumption | omega | (dsimp only; omega) | (simp only [List.length_append, List.length_cons, List.length_nil] at *; omega)) (by first | assumption | omega | (dsimp only; omega) | (simp only [List.length_append, List.length_cons, List.length_nil] at *; omega)) (by first | assumption | omega | (dsimp only; omega) | (simp only [List.length_append, List.length_cons, List.length_nil] at *; omega)) (by first | assumption | omega | (dsimp only; omega) | (simp only [List.length_append, List.length_cons, List.length_nil] at *; omega)) (by first | assumption | omega | (dsimp only; omega) | (simp only [List.length_append, List.length_cons, List.length_nil] at *; omega))) ?_)
           refine QU 2 [(175, B (!(agrees ho.rules y45 ho.parties (k : Int) ho.now)))] (QEND rfl (NEXT (IFK (!(agrees ho.rules y45 ho.parties (k : Int) ho.now)) (fun bh58 => ?_) (fun bh58 => ?_))))
           ·
            have h58 := notT bh58
            refine SEQ (RG (UU 1 [(2, B false)] (ENDOPS (NEXT (RF rfl (.bool false) () [] ?_ ?_)))))
            · (first | (exact congrArg Value.bool (houseOk_t ⟨by assumption, by assumption, by assumption, by omega, by omega, hpp, ⟨fun i x h9 => by rw [hcl]; exact htt i x h9, fun x h9 => by rw [hcl, hw1]; exact hjj x h9, by omega⟩, hcc⟩).symm) | (refine congrArg Value.bool (houseOk_f fun hw9 => ?_).symm; obtain ⟨w1, w2, w3, w4, w5, w6, w7, w8⟩ := hw9; first | (exact absurd (w1.symm.trans (show rulesOk ho.rules = false by assumption)) (by decide)) | (exact absurd (w2.symm.trans (show inB ho.now 0 1000000 = false by assumption)) (by decide)) | (exact absurd (w3.symm.trans (show inB ho.turn 1 1000001 = false by assumption)) (by decide)) | omega | (have w9 := w7.2.2; omega) | (have wp := partiesP_iff.1 w6; first | (have w6 := (wp k _ hx_y45).1.1; simp_all; done) | (have w6 := (wp k _ hx_y45).1.2.1; omega)) | (have w9 := (w8 k _ hx_y45).1; rw [hx55] at w9; injection w9 with w9; omega) | (exact absurd ((w8 k _ hx_y45).2.1.symm.trans (show agrees ho.rules y45 ho.parties (k : Int) ho.now = false by assumption)) (by decide)) | (have w9 := (w8 k _ hx_y45).2.2; omega) | (have wj := w7; have wn : wr ((ho.cabins.length : Int) - 1) = wr ((ho.rules.seats.length : Int) - 1) := (by rw [w5]); first | (have w6 := (wj.1 k _ hx_y45).1; rw [wn] at w6; exact absurd (w6.symm.trans (show inB y45 0 (wr ((ho.rules.seats.length : Int) - 1)) = false by assumption)) (by decide)) | (exact Exists.elim ((any_take' (l := ho.todo) (k := k) (x := y45)).1 (by assumption)) fun j9 h9 => Exists.elim h9 fun z9 h9 => (wj.1 k _ hx_y45).2 j9 z9 h9.1 h9.2.1 h9.2.2) | (have w6 := wj.2.1 _ (List.mem_of_getElem? hx_y45); rw [wn, hw1] at w6; exact absurd (w6.symm.trans (show inB y45 (-1) ((ho.rules.seats.length - 1 : Nat) : Int) = false by assumption)) (by decide)))))
            · rfl
           ·
            have h58 := notF bh58
            refine SKIP (OUTN (NEXT (RG (UU 1 [(176, I (wr ((k : Int) + 1)))] (CS 176 (vi (wr ((k : Int) + 1))) (vi ((k + 1 : Nat) : Int)) (vi_cast (by omega) (by omega)) (UU 1 [(139, I ((k + 1 : Nat) : Int))] (ENDOPS (BK (k + 1, ys46) [1, 3, 137, 138, 139] 1 [] ⟨hl_y45, hd_y45, (fun i c hi hc => by by_cases h9 : i = k; (subst h9; rw [hx_y45] at hc; injection hc with hc; subst hc; exact ⟨by rw [hx55]; congr 1; omega, by assumption, by omega⟩); exact hv0 i c (by omega) hc)⟩ (by simp)))))))))
        ·
         have h44 := of_decide_eq_false bh44
         obtain rfl := drop_nil hk (by omega)
         have hcc : ∀ (i : Nat) (c : Cabin), ho.cabins[i]? = some c → CabinH ho i c := fun i c hc => hv0 i c (by have := (List.getElem?_eq_some_iff.1 hc).1; simp at hk; omega) hc
         refine EXIT (PASS trivial (PASS trivial (OUT (NEXT (SEQ (SEQ (RG (UU 4 [(178, .v (.slice ho_todo_a ho.todo.length ho_todo_c)), (179, I (ho.todo.length : Int)), (180, I 0)] (ENDOPS (NEXT (BLOCK (LOOP (ι := Nat × (List Int)) (fun j => [(1, .p 0 0), (3, I (ho.rules.seats.length : Int)), (178, .v (.slice ho_todo_a ho.todo.length ho_todo_c)), (179, I (ho.todo.length : Int)), (180, I (j.1 : Int))]) (fun j => [(30, (hC ho ho_rules_seats_a ho_rules_seats_c ho_parties_a ho_parties_c ho_cabins_a ho_cabins_c ho_todo_a ho_todo_c ho_jobs_a ho_jobs_c))]) (fun j => []) (fun j => j.1 + j.2.length = ho.todo.length ∧ ho.todo.drop j.1 = j.2 ∧ (∀ (i : Nat) (x : Int), i < j.1 → ho.todo[i]? = some x → inB x 0 (wr ((ho.rules.seats.length : Int) - 1)) = true ∧ ∀ (j : Nat) (z : Int), j < i → ho.todo[j]? = some z → z ≠ x)) (fun j => j.2.length) (0, ho.todo) [1, 3, 178, 179, 180] ⟨by simp, rfl, fun i x hi => absurd hi (Nat.not_lt_zero _)⟩ (by kernel_rfl) rfl rfl ?_))))))))))))
         rintro ⟨k, ys⟩ ⟨hk, hd, hv0⟩
         try dsimp only at hk hd hv0
         refine SEQ (RG (UU 1 [(181, B (decide ((k : Int) < (ho.todo.length : Int))))] (ENDOPS (NEXT (SEQ (IFK (decide ((k : Int) < (ho.todo.length : Int))) (fun bh59 => ?_) (fun bh59 => ?_)))))))
         ·
          have h59 := of_decide_eq_true bh59
          obtain ⟨y60, ys61, rfl, hx_y60, hd_y60, hl_y60⟩ := drop_cons hd hk (by omega)
          refine SKIP (NEXT (SEQ (BLOCK (SEQ (RG (UU 1 [(182, I (k : Int))] (OPC (IX 24 (.tmp 178) (.tmp 180) 183 0 ho_todo_a ho.todo.length ho_todo_c .i64 (k : Int) 3 1 (Rd.some hho_todo (by omega)) (by omega) (by omega) (OPC (LE 3 (.tmp 183) 184 3 ho_todo_a (k * 1) 0 ([vi y60]) (vi y60) (fun w hw => (hho_todo.fr hw.fr).flat hx_y60) (UU 2 [(10, I (k : Int)), (11, I y60)] (NR (UU 2 [(185, I y60), (186, I (ho.rules.seats.length : Int))] (OPC (CA 33 #[vi y60, vi (ho.rules.seats.length : Int)] (some 187) (RV (.bool (inB y60 0 (wr ((ho.rules.seats.length : Int) - 1))))) (fun w hw => isIndex_c w y60 (ho.rules.seats.length : Int)) ?_)))))))))))))))
          rintro ⟨⟩
          refine UU 2 [(189, B (!(inB y60 0 (wr ((ho.rules.seats.length : Int) - 1)))))] (SP 189 (!(inB y60 0 (wr ((ho.rules.seats.length : Int) - 1)))) (fun bh62 => ?_) (fun bh62 => ?_))
          ·
           have h62 := notT bh62
           refine UU 7 [(196, B true)] (ENDOPS (NEXT (IFT (by kernel_rfl) (SEQ (RG (UU 1 [(2, B false)] (ENDOPS (NEXT (RF rfl (.bool false) () [] ?_ ?_)))))))))
           · (first | (exact congrArg Value.bool (houseOk_t ⟨by assumption, by assumption, by assumption, by omega, by omega, hpp, ⟨fun i x h9 => by rw [hcl]; exact htt i x h9, fun x h9 => by rw [hcl, hw1]; exact hjj x h9, by omega⟩, hcc⟩).symm) | (refine congrArg Value.bool (houseOk_f fun hw9 => ?_).symm; obtain ⟨w1, w2, w3, w4, w5, w6, w7, w8⟩ := hw9; first | (exact absurd (w1.symm.trans (show rulesOk ho.rules = false by assumption)) (by decide)) | (exact absurd (w2.symm.trans (show inB ho.now 0 1000000 = false by assumption)) (by decide)) | (exact absurd (w3.symm.trans (show inB ho.turn 1 1000001 = false by assumption)) (by decide)) | omega | (have w9 := w7.2.2; omega) | (have wp := partiesP_iff.1 w6; first | (have w6 := (wp k _ hx_y60).1.1; simp_all; done) | (have w6 := (wp k _ hx_y60).1.2.1; omega)) | (exact absurd ((w8 k _ hx_y60).2.1.symm.trans (show agrees ho.rules y60 ho.parties (k : Int) ho.now = false by assumption)) (by decide)) | (have w9 := (w8 k _ hx_y60).2.2; omega) | (have wj := w7; have wn : wr ((ho.cabins.length : Int) - 1) = wr ((ho.rules.seats.length : Int) - 1) := (by rw [w5]); first | (have w6 := (wj.1 k _ hx_y60).1; rw [wn] at w6; exact absurd (w6.symm.trans (show inB y60 0 (wr ((ho.rules.seats.length : Int) - 1)) = false by assumption)) (by decide)) | (exact Exists.elim ((any_take' (l := ho.todo) (k := k) (x := y60)).1 (by assumption)) fun j9 h9 => Exists.elim h9 fun z9 h9 => (wj.1 k _ hx_y60).2 j9 z9 h9.1 h9.2.1 h9.2.2) | (have w6 := wj.2.1 _ (List.mem_of_getElem? hx_y60); rw [wn, hw1] at w6; exact absurd (w6.symm.trans (show inB y60 (-1) ((ho.rules.seats.length - 1 : Nat) : Int) = false by assumption)) (by decide)))))
           · rfl
          ·
           have h62 := notF bh62
           refine UU 3 [(191, .v (.slice ho_todo_a ho.todo.length ho_todo_c)), (192, I (k : Int))] (OPC (CUTH 24 (.tmp 191) (.tmp 192) 193 24 (by kernel_rfl) (NL rfl) ho_todo_a ho.todo.length ho_todo_c .i64 (k : Int) (by kernel_rfl) (by kernel_rfl) 3 intL ho.todo (by kernel_rfl) (by kernel_rfl) (by omega) (by first | omega | (simp only [List.length_append, List.length_cons, List.length_nil, List.length_take, List.length_drop] at *; omega)) rfl (by omega) (fun a63 hsh64 => ?_)))
           have hsh64 : ∀ w, Rd intL w ho_todo_a ho.todo → Rd intL w a63 (ho.todo.take k) := hsh64
           have hln65 : (ho.todo.take k).length = k := by first | (simp; done) | (simp; omega)
           refine CS 193 (.slice a63 k ho_todo_c) (.slice a63 ((ho.todo.take k).length) ho_todo_c) (by rw [hln65]) (UU 1 [(194, I y60)] (OPC (CA 58 #[.slice a63 ((ho.todo.take k).length) ho_todo_c, vi y60] (some 195) (RV (.bool (((ho.todo.take k)).any (fun e : Int => y60 == e)))) (fun w hw => containsI_c w (ho.todo.take k) a63 ho_todo_c (hsh64 _ (hho_todo.fr hw.fr)) y60) ?_)))
           rintro ⟨⟩
           refine UU 1 [(196, B (((ho.todo.take k)).any (fun e : Int => y60 == e)))] (NI (((ho.todo.take k)).any (fun e : Int => y60 == e)) (fun bh66 => ?_) (fun bh66 => ?_))
           ·
            have h66 := bh66
            refine SEQ (RG (UU 1 [(2, B false)] (ENDOPS (NEXT (RF rfl (.bool false) () [] ?_ ?_)))))
            · (first | (exact congrArg Value.bool (houseOk_t ⟨by assumption, by assumption, by assumption, by omega, by omega, hpp, ⟨fun i x h9 => by rw [hcl]; exact htt i x h9, fun x h9 => by rw [hcl, hw1]; exact hjj x h9, by omega⟩, hcc⟩).symm) | (refine congrArg Value.bool (houseOk_f fun hw9 => ?_).symm; obtain ⟨w1, w2, w3, w4, w5, w6, w7, w8⟩ := hw9; first | (exact absurd (w1.symm.trans (show rulesOk ho.rules = false by assumption)) (by decide)) | (exact absurd (w2.symm.trans (show inB ho.now 0 1000000 = false by assumption)) (by decide)) | (exact absurd (w3.symm.trans (show inB ho.turn 1 1000001 = false by assumption)) (by decide)) | omega | (have w9 := w7.2.2; omega) | (have wp := partiesP_iff.1 w6; first | (have w6 := (wp k _ hx_y60).1.1; simp_all; done) | (have w6 := (wp k _ hx_y60).1.2.1; omega)) | (exact absurd ((w8 k _ hx_y60).2.1.symm.trans (show agrees ho.rules y60 ho.parties (k : Int) ho.now = false by assumption)) (by decide)) | (have w9 := (w8 k _ hx_y60).2.2; omega) | (have wj := w7; have wn : wr ((ho.cabins.length : Int) - 1) = wr ((ho.rules.seats.length : Int) - 1) := (by rw [w5]); first | (have w6 := (wj.1 k _ hx_y60).1; rw [wn] at w6; exact absurd (w6.symm.trans (show inB y60 0 (wr ((ho.rules.seats.length : Int) - 1)) = false by assumption)) (by decide)) | (exact Exists.elim ((any_take' (l := ho.todo) (k := k) (x := y60)).1 (by assumption)) fun j9 h9 => Exists.elim h9 fun z9 h9 => (wj.1 k _ hx_y60).2 j9 z9 h9.1 h9.2.1 h9.2.2) | (have w6 := wj.2.1 _ (List.mem_of_getElem? hx_y60); rw [wn, hw1] at w6; exact absurd (w6.symm.trans (show inB y60 (-1) ((ho.rules.seats.length - 1 : Nat) : Int) = false by assumption)) (by decide)))))
            · rfl
           ·
            have h66 := bh66
            refine SKIP (OUTN (NEXT (RG (UU 1 [(197, I (wr ((k : Int) + 1)))] (CS 197 (vi (wr ((k : Int) + 1))) (vi ((k + 1 : Nat) : Int)) (vi_cast (by omega) (by omega)) (UU 1 [(180, I ((k + 1 : Nat) : Int))] (ENDOPS (BK (k + 1, ys61) [1, 3, 178, 179, 180] 1 [] ⟨hl_y60, hd_y60, (fun i x hi hx9 => by by_cases h9 : i = k; (subst h9; rw [hx_y60] at hx9; injection hx9 with hx9; subst hx9; exact ⟨by simp_all, fun j z hj hz he => by have h8 := (any_take' (l := ho.todo) (k := i) (x := y60)).2 ⟨j, z, hj, hz, he⟩; simp_all⟩); exact hv0 i x (by omega) hx9)⟩ (by simp)))))))))
         ·
          have h59 := of_decide_eq_false bh59
          obtain rfl := drop_nil hk (by omega)
          have htt : ∀ (i : Nat) (x : Int), ho.todo[i]? = some x → inB x 0 (wr ((ho.rules.seats.length : Int) - 1)) = true ∧ ∀ (j : Nat) (z : Int), j < i → ho.todo[j]? = some z → z ≠ x := fun i x hx9 => hv0 i x (by have := (List.getElem?_eq_some_iff.1 hx9).1; simp at hk; omega) hx9
          refine EXIT (PASS trivial (PASS trivial (OUT (NEXT (SEQ (SEQ (RG (UU 4 [(199, .v (.slice ho_jobs_a ho.jobs.length ho_jobs_c)), (200, I (ho.jobs.length : Int)), (201, I 0)] (ENDOPS (NEXT (BLOCK (LOOP (ι := Nat × (List Int)) (fun j => [(3, I (ho.rules.seats.length : Int)), (199, .v (.slice ho_jobs_a ho.jobs.length ho_jobs_c)), (200, I (ho.jobs.length : Int)), (201, I (j.1 : Int))]) (fun j => [(30, (hC ho ho_rules_seats_a ho_rules_seats_c ho_parties_a ho_parties_c ho_cabins_a ho_cabins_c ho_todo_a ho_todo_c ho_jobs_a ho_jobs_c))]) (fun j => []) (fun j => j.1 + j.2.length = ho.jobs.length ∧ ho.jobs.drop j.1 = j.2 ∧ (∀ x ∈ ho.jobs.take j.1, inB x (-1) ((ho.rules.seats.length - 1 : Nat) : Int) = true)) (fun j => j.2.length) (0, ho.jobs) [3, 199, 200, 201] ⟨by simp, rfl, by simp⟩ (by kernel_rfl) rfl rfl ?_))))))))))))
          rintro ⟨k, ys⟩ ⟨hk, hd, hv0⟩
          try dsimp only at hk hd hv0
          refine SEQ (RG (UU 1 [(202, B (decide ((k : Int) < (ho.jobs.length : Int))))] (ENDOPS (NEXT (SEQ (IFK (decide ((k : Int) < (ho.jobs.length : Int))) (fun bh67 => ?_) (fun bh67 => ?_)))))))
          ·
           have h67 := of_decide_eq_true bh67
           obtain ⟨y68, ys69, rfl, hx_y68, hd_y68, hl_y68⟩ := drop_cons hd hk (by omega)
           refine SKIP (NEXT (SEQ (BLOCK (SEQ (RG (OPC (IX 24 (.tmp 199) (.tmp 201) 203 0 ho_jobs_a ho.jobs.length ho_jobs_c .i64 (k : Int) 3 1 (Rd.some hho_jobs (by omega)) (by omega) (by omega) (OPC (LE 3 (.tmp 203) 204 3 ho_jobs_a (k * 1) 0 ([vi y68]) (vi y68) (fun w hw => (hho_jobs.fr hw.fr).flat hx_y68) (UU 1 [(13, I y68)] (NR (UU 3 [(205, I y68), (207, I (wr ((ho.rules.seats.length : Int) - 1)))] (CS 207 (vi (wr ((ho.rules.seats.length : Int) - 1))) (vi ((ho.rules.seats.length - 1 : Nat) : Int)) (vi_cast (by omega) (by omega)) (OPC (CA 54 #[vi y68, vi (-1), vi ((ho.rules.seats.length - 1 : Nat) : Int)] (some 208) (RV (.bool (inB y68 (-1) ((ho.rules.seats.length - 1 : Nat) : Int)))) (fun w hw => within_c w y68 (-1) ((ho.rules.seats.length - 1 : Nat) : Int)) ?_)))))))))))))))
           rintro ⟨⟩
           refine UU 1 [(209, B (!(inB y68 (-1) ((ho.rules.seats.length - 1 : Nat) : Int))))] (NI (!(inB y68 (-1) ((ho.rules.seats.length - 1 : Nat) : Int))) (fun bh70 => ?_) (fun bh70 => ?_))
           ·
            have h70 := notT bh70
            refine SEQ (RG (UU 1 [(2, B false)] (ENDOPS (NEXT (RF rfl (.bool false) () [] ?_ ?_)))))
            · (first | (exact congrArg Value.bool (houseOk_t ⟨by assumption, by assumption, by assumption, by omega, by omega, hpp, ⟨fun i x h9 => by rw [hcl]; exact htt i x h9, fun x h9 => by rw [hcl, hw1]; exact hjj x h9, by omega⟩, hcc⟩).symm) | (refine congrArg Value.bool (houseOk_f fun hw9 => ?_).symm; obtain ⟨w1, w2, w3, w4, w5, w6, w7, w8⟩ := hw9; first | (exact absurd (w1.symm.trans (show rulesOk ho.rules = false by assumption)) (by decide)) | (exact absurd (w2.symm.trans (show inB ho.now 0 1000000 = false by assumption)) (by decide)) | (exact absurd (w3.symm.trans (show inB ho.turn 1 1000001 = false by assumption)) (by decide)) | omega | (have w9 := w7.2.2; omega) | (have wp := partiesP_iff.1 w6; first | (have w6 := (wp k _ hx_y68).1.1; simp_all; done) | (have w6 := (wp k _ hx_y68).1.2.1; omega)) | (exact absurd ((w8 k _ hx_y68).2.1.symm.trans (show agrees ho.rules y68 ho.parties (k : Int) ho.now = false by assumption)) (by decide)) | (have w9 := (w8 k _ hx_y68).2.2; omega) | (have wj := w7; have wn : wr ((ho.cabins.length : Int) - 1) = wr ((ho.rules.seats.length : Int) - 1) := (by rw [w5]); first | (have w6 := (wj.1 k _ hx_y68).1; rw [wn] at w6; exact absurd (w6.symm.trans (show inB y68 0 (wr ((ho.rules.seats.length : Int) - 1)) = false by assumption)) (by decide)) | (exact Exists.elim ((any_take' (l := ho.todo) (k := k) (x := y68)).1 (by assumption)) fun j9 h9 => Exists.elim h9 fun z9 h9 => (wj.1 k _ hx_y68).2 j9 z9 h9.1 h9.2.1 h9.2.2) | (have w6 := wj.2.1 _ (List.mem_of_getElem? hx_y68); rw [wn, hw1] at w6; exact absurd (w6.symm.trans (show inB y68 (-1) ((ho.rules.seats.length - 1 : Nat) : Int) = false by assumption)) (by decide)))))
            · rfl
           ·
            have h70 := notF bh70
            refine SKIP (OUTN (NEXT (RG (UU 1 [(210, I (wr ((k : Int) + 1)))] (CS 210 (vi (wr ((k : Int) + 1))) (vi ((k + 1 : Nat) : Int)) (vi_cast (by omega) (by omega)) (UU 1 [(201, I ((k + 1 : Nat) : Int))] (ENDOPS (BK (k + 1, ys69) [3, 199, 200, 201] 1 [] ⟨hl_y68, hd_y68, (by rw [List.take_add_one, hx_y68]; intro x hx9; rcases List.mem_append.1 hx9 with h8 | h8; exact hv0 x h8; (simp at h8; subst h8; assumption))⟩ (by simp)))))))))
          ·
           have h67 := of_decide_eq_false bh67
           obtain rfl := drop_nil hk (by omega)
           have hjj : ∀ x ∈ ho.jobs, inB x (-1) ((ho.rules.seats.length - 1 : Nat) : Int) = true := (by rw [List.take_of_length_le (by simp at hk; omega)] at hv0; exact hv0)
           refine EXIT (PASS trivial (PASS trivial (OUT (NEXT (SEQ (RG (UU 1 [(2, B true)] (ENDOPS (NEXT (RF rfl (.bool true) () [] ?_ ?_))))))))))
           · (first | (exact congrArg Value.bool (houseOk_t ⟨by assumption, by assumption, by assumption, by omega, by omega, hpp, ⟨fun i x h9 => by rw [hcl]; exact htt i x h9, fun x h9 => by rw [hcl, hw1]; exact hjj x h9, by omega⟩, hcc⟩).symm) | (refine congrArg Value.bool (houseOk_f fun hw9 => ?_).symm; obtain ⟨w1, w2, w3, w4, w5, w6, w7, w8⟩ := hw9; first | (exact absurd (w1.symm.trans (show rulesOk ho.rules = false by assumption)) (by decide)) | (exact absurd (w2.symm.trans (show inB ho.now 0 1000000 = false by assumption)) (by decide)) | (exact absurd (w3.symm.trans (show inB ho.turn 1 1000001 = false by assumption)) (by decide)) | omega | (have w9 := w7.2.2; omega) | (have wp := partiesP_iff.1 w6; first | omega) | (have wj := w7; have wn : wr ((ho.cabins.length : Int) - 1) = wr ((ho.rules.seats.length : Int) - 1) := (by rw [w5]); first | omega)))
           · rfl

theorem iHasCabin_c (W : World) (ho : House) (ho_rules_seats_a : Option Addr) (ho_rules_seats_c : Nat) (hho_rules_seats : Rd intL W ho_rules_seats_a ho.rules.seats) (ho_parties_a : Option Addr) (ho_parties_c : Nat) (hho_parties : Rd partyL W ho_parties_a ho.parties) (ho_cabins_a : Option Addr) (ho_cabins_c : Nat) (hho_cabins : Rd (cabinLx 47 81 99) W ho_cabins_a ho.cabins) (ho_todo_a : Option Addr) (ho_todo_c : Nat) (hho_todo : Rd intL W ho_todo_a ho.todo) (ho_jobs_a : Option Addr) (ho_jobs_c : Nat) (hho_jobs : Rd intL W ho_jobs_a ho.jobs) (cabin : Int) (hsz : HouseSz ho) (hcp : ho.parties.length ≤ ho_parties_c) (hct : ho.todo.length ≤ ho_todo_c) : Spec Tryz.prog W [] 13 #[.agg (hC ho ho_rules_seats_a ho_rules_seats_c ho_parties_a ho_parties_c ho_cabins_a ho_cabins_c ho_todo_a ho_todo_c ho_jobs_a ho_jobs_c).toArray, vi cabin] (RV (.bool (hasCab ho cabin))) := by
 refine ENTER0 (N := 14) (vs := [.agg (hC ho ho_rules_seats_a ho_rules_seats_c ho_parties_a ho_parties_c ho_cabins_a ho_cabins_c ho_todo_a ho_todo_c ho_jobs_a ho_jobs_c).toArray, vi cabin]) Tryz.func13 rfl rfl (NL rfl) ?_
 have hho_rules_seats_len := hho_rules_seats.len
 have hho_parties_len := hho_parties.len
 have hho_cabins_len := hho_cabins.len
 have hho_todo_len := hho_todo.len
 have hho_jobs_len := hho_jobs.len
 refine SEQ (RG (UL 2 [(2, .p 0 0)] [(30, (hC ho ho_rules_seats_a ho_rules_seats_c ho_parties_a ho_parties_c ho_cabins_a ho_cabins_c ho_todo_a ho_todo_c ho_jobs_a ho_jobs_c))] (NR (UU 1 [(5, .v (.agg (hC ho ho_rules_seats_a ho_rules_seats_c ho_parties_a ho_parties_c ho_cabins_a ho_cabins_c ho_todo_a ho_todo_c ho_jobs_a ho_jobs_c).toArray))] (OPC (CA 32 #[.agg (hC ho ho_rules_seats_a ho_rules_seats_c ho_parties_a ho_parties_c ho_cabins_a ho_cabins_c ho_todo_a ho_todo_c ho_jobs_a ho_jobs_c).toArray] (some 6) (RV (.bool (houseOk ho))) (fun w hw => iHouseOk_c w ho ho_rules_seats_a ho_rules_seats_c (hho_rules_seats.fr hw.fr) ho_parties_a ho_parties_c (hho_parties.fr hw.fr) ho_cabins_a ho_cabins_c (hho_cabins.fr hw.fr) ho_todo_a ho_todo_c (hho_todo.fr hw.fr) ho_jobs_a ho_jobs_c (hho_jobs.fr hw.fr) (by assumption) (by first | assumption | omega | (dsimp only; omega) | (simp only [List.length_append, List.length_cons, List.length_nil] at *; omega)) (by first | assumption | omega | (dsimp only; omega) | (simp only [List.length_append, List.length_cons, List.length_nil] at *; omega))) ?_))))))
 rintro ⟨⟩
 refine UU 1 [(7, B (houseOk ho))] (SP 7 (houseOk ho) (fun bh1 => ?_) (fun bh1 => ?_))
 ·
  have h1 := bh1
  refine UU 4 [(8, I cabin), (11, I (ho.cabins.length : Int))] (OPC (CA 33 #[vi cabin, vi (ho.cabins.length : Int)] (some 12) (RV (.bool (inB cabin 0 (wr ((ho.cabins.length : Int) - 1))))) (fun w hw => isIndex_c w cabin (ho.cabins.length : Int)) ?_))
  rintro ⟨⟩
  refine UU 2 [(4, B (inB cabin 0 (wr ((ho.cabins.length : Int) - 1))))] (ENDOPS (NEXT (RF rfl (.bool (inB cabin 0 (wr ((ho.cabins.length : Int) - 1)))) () [] ?_ ?_)))
  · (first | (simp_all [RV, hasCab]; done) | (simp [RV, hasCab, *]; done))
  · rfl
 ·
  have h1 := bh1
  refine UU 7 [(4, B false)] (ENDOPS (NEXT (RF rfl (.bool false) () [] ?_ ?_)))
  · (first | (simp_all [RV, hasCab]; done) | (simp [RV, hasCab, *]; done))
  · rfl

theorem iResting_c (W : World) (p : Party) (now : Int) : Spec Tryz.prog W [] 16 #[.agg #[vi p.id, vi p.cabin, vi p.from', vi p.size, vi p.tier, vi p.since, vi p.turn, vi p.state, vi p.until', vi p.asked], vi now] (RV (.bool (restingB p now))) := by
 refine ENTER0 (N := 14) (vs := [.agg #[vi p.id, vi p.cabin, vi p.from', vi p.size, vi p.tier, vi p.since, vi p.turn, vi p.state, vi p.until', vi p.asked], vi now]) Tryz.func16 rfl rfl (NL rfl) ?_
 refine SEQ (RG (UL 2 [(2, .p 0 0)] [(50, partyE p)] (NR (UU 4 [(8, B (p.state == 1))] (SP 8 (p.state == 1) (fun bh1 => ?_) (fun bh1 => ?_))))))
 ·
  have h1 := eq_of_beq bh1
  refine UU 6 [(4, B (decide (p.until' > now)))] (ENDOPS (NEXT (RF rfl (.bool (decide (p.until' > now))) () [] ?_ ?_)))
  · (first | (simp [RV, restingB, *]; done) | (simp_all [RV, restingB]; done))
  · rfl
 ·
  have h1 := ne_of_beq_false bh1
  refine UU 6 [(4, B false)] (ENDOPS (NEXT (RF rfl (.bool false) () [] ?_ ?_)))
  · (first | (simp [RV, restingB, *]; done) | (simp_all [RV, restingB]; done))
  · rfl

theorem ipartyAt1_c (W : World) (p : Party) (pid_b : Nat) (pid : Int) (hpid : ElemAt W (some ⟨pid_b, 0, none⟩) 0 [vi pid]) : Spec Tryz.prog W [] 61 #[.agg #[vi p.id, vi p.cabin, vi p.from', vi p.size, vi p.tier, vi p.since, vi p.turn, vi p.state, vi p.until', vi p.asked], .pointer (some ⟨pid_b, 0, none⟩)] (RV (.bool ((p).id == pid))) := by
 refine ENTER0 (N := 8) (vs := [.agg #[vi p.id, vi p.cabin, vi p.from', vi p.size, vi p.tier, vi p.since, vi p.turn, vi p.state, vi p.until', vi p.asked], .pointer (some ⟨pid_b, 0, none⟩)]) Tryz.func61 rfl rfl (NL rfl) ?_
 refine ASE (d := 1) rfl (SEQ (RG (UL 2 [(2, .p 0 0)] [(50, partyE p)] (NR (UU 2 [(5, I p.id)] (OPC (LE 3 (.tmp 1) 6 3 (some ⟨pid_b, 0, none⟩) 0 0 ([vi pid]) (vi pid) (fun w hw => (hpid.fr hw.fr)) (UU 2 [(3, B (p.id == pid))] (ENDOPS (NEXT (RF rfl (.bool (p.id == pid)) () [] ?_ ?_)))))))))))
 · simp [RV]
 · rfl

theorem ixPartyAt_c (W : World) (list : List Party) (list_a : Option Addr) (list_c : Nat) (hlist : Rd partyL W list_a list) (pid_b : Nat) (pid : Int) (hpid : ElemAt W (some ⟨pid_b, 0, none⟩) 0 [vi pid]) : Spec Tryz.prog W [] 60 #[.slice list_a list.length list_c, .func (.func 61) #[] #[.pointer (some ⟨pid_b, 0, none⟩)]] (RV (vi (idxF (fun e : Party => e.id == pid) list 0))) := by
 refine ENTER0 (N := 19) (vs := [.slice list_a list.length list_c, .func (.func 61) #[] #[.pointer (some ⟨pid_b, 0, none⟩)]]) Tryz.func60 rfl rfl (NL rfl) ?_
 have hlist_len := hlist.len
 refine SEQ (RG (UU 1 [] (ENDOPS (NEXT (SEQ (SEQ (RG (UU 3 [(7, I (list.length : Int)), (8, I 0)] (ENDOPS (NEXT (BLOCK (LOOP (ι := Nat × (List Party)) (fun j => [(0, .v (.slice list_a list.length list_c)), (1, .v (.func (.func 61) #[] #[.pointer (some ⟨pid_b, 0, none⟩)])), (7, I (list.length : Int)), (8, I (j.1 : Int))]) (fun j => []) (fun j => []) (fun j => j.1 + j.2.length = list.length ∧ list.drop j.1 = j.2 ∧ idxF (fun e : Party => e.id == pid) list 0 = idxF (fun e : Party => e.id == pid) j.2 j.1) (fun j => j.2.length) (0, list) [0, 1, 7, 8] ⟨by simp, rfl, rfl⟩ (by kernel_rfl) rfl rfl ?_))))))))))))
 rintro ⟨k, ys⟩ ⟨hk, hd, hv0⟩
 try dsimp only at hk hd hv0
 refine SEQ (RG (UU 1 [(9, B (decide ((k : Int) < (list.length : Int))))] (ENDOPS (NEXT (SEQ (IFK (decide ((k : Int) < (list.length : Int))) (fun bh1 => ?_) (fun bh1 => ?_)))))))
 ·
  have h1 := of_decide_eq_true bh1
  obtain ⟨y2, ys3, rfl, hx_y2, hd_y2, hl_y2⟩ := drop_cons hd hk (by omega)
  refine SKIP (NEXT (SEQ (BLOCK (SEQ (RG (UU 2 [(5, I (k : Int))] (NR (UU 3 [(11, .v (.func (.func 61) #[] #[.pointer (some ⟨pid_b, 0, none⟩)])), (12, .v (.slice list_a list.length list_c)), (13, I (k : Int))] (OPC (IX 27 (.tmp 12) (.tmp 13) 14 0 list_a list.length list_c .i64 (k : Int) 50 10 (Rd.some hlist (by omega)) (by omega) (by omega) (OPC (LE 50 (.tmp 14) 15 50 list_a (k * 10) 0 (partyE y2) (.agg (partyE y2).toArray) (fun w hw => (hlist.fr hw.fr).flat hx_y2) (OPC (CA 61 #[.agg #[vi y2.id, vi y2.cabin, vi y2.from', vi y2.size, vi y2.tier, vi y2.since, vi y2.turn, vi y2.state, vi y2.until', vi y2.asked], .pointer (some ⟨pid_b, 0, none⟩)] (some 16) (RV (.bool ((y2).id == pid))) (fun w hw => ipartyAt1_c w y2 pid_b pid (hpid.fr hw.fr)) ?_))))))))))))))
  rintro ⟨⟩
  refine NI ((y2).id == pid) (fun bh4 => ?_) (fun bh4 => ?_)
  ·
   have h4 := eq_of_beq bh4
   refine SEQ (RG (UU 2 [(4, I (k : Int))] (ENDOPS (NEXT (RF rfl (vi (k : Int)) () [] ?_ ?_)))))
   · simp_all [RV, idxF]
   · rfl
  ·
   have h4 := ne_of_beq_false bh4
   refine SKIP (OUTN (NEXT (RG (UU 1 [(18, I (wr ((k : Int) + 1)))] (CS 18 (vi (wr ((k : Int) + 1))) (vi ((k + 1 : Nat) : Int)) (vi_cast (by omega) (by omega)) (UU 1 [(8, I ((k + 1 : Nat) : Int))] (ENDOPS (BK (k + 1, ys3) [0, 1, 7, 8] 0 [] ⟨hl_y2, hd_y2, (hv0.trans (by simp_all [idxF]))⟩ (by simp)))))))))
 ·
  have h1 := of_decide_eq_false bh1
  obtain rfl := drop_nil hk (by omega)
  refine EXIT (PASS trivial (PASS trivial (OUT (NEXT (SEQ (RG (UU 1 [(4, I (-1))] (ENDOPS (NEXT (RF rfl (vi (-1)) () [] ?_ ?_))))))))))
  · simp_all [RV, idxF]
  · rfl

theorem ipartyAt_c (W : World) (list : List Party) (list_a : Option Addr) (list_c : Nat) (hlist : Rd partyL W list_a list) (id : Int) : Spec Tryz.prog W [] 35 #[.slice list_a list.length list_c, vi id] (RV (vi (atId list id))) := by
 refine ENTER0 (N := 8) (vs := [.slice list_a list.length list_c, vi id]) Tryz.func35 rfl rfl (NL rfl) ?_
 have hlist_len := hlist.len
 refine SEQ (RG (UL 2 [(3, .p 0 0)] [(3, [vi id])] (NR (UU 1 [(5, .v (.slice list_a list.length list_c))] (EXPORT (fun bs hbs => ?_))))))
 obtain ⟨b1, rfl⟩ := len1 hbs
 refine ASV (d := 3) rfl (RU 1 [2, 3] [(6, .v (.func (.func 61) #[] #[.pointer (some ⟨b1, 0, none⟩)]))] (by kernel_rfl) rfl (OPC (CA 60 #[.slice list_a list.length list_c, .func (.func 61) #[] #[.pointer (some ⟨b1, 0, none⟩)]] (some 7) (RV (vi (idxF (fun e : Party => e.id == id) list 0))) (fun w hw => ixPartyAt_c w list list_a list_c (hlist.fr hw.fr) b1 id (ptC_elem (hw.own 0 rfl))) ?_)))
 rintro ⟨⟩
 refine UU 1 [(4, I (idxF (fun e : Party => e.id == id) list 0))] (ENDOPS (IMPORT (L0 := [(3, [vi id])]) (L1 := []) [b1] rfl [0] _ rfl [(4, I (idxF (fun e : Party => e.id == id) list 0))] (by kernel_rfl) (by kernel_rfl) (NEXT (RF rfl (vi (idxF (fun e : Party => e.id == id) list 0)) () [] ?_ ?_))))
 · rfl
 · rfl

theorem iPartyAt_c (W : World) (ho : House) (ho_rules_seats_a : Option Addr) (ho_rules_seats_c : Nat) (hho_rules_seats : Rd intL W ho_rules_seats_a ho.rules.seats) (ho_parties_a : Option Addr) (ho_parties_c : Nat) (hho_parties : Rd partyL W ho_parties_a ho.parties) (ho_cabins_a : Option Addr) (ho_cabins_c : Nat) (hho_cabins : Rd (cabinLx 47 81 99) W ho_cabins_a ho.cabins) (ho_todo_a : Option Addr) (ho_todo_c : Nat) (hho_todo : Rd intL W ho_todo_a ho.todo) (ho_jobs_a : Option Addr) (ho_jobs_c : Nat) (hho_jobs : Rd intL W ho_jobs_a ho.jobs) (id : Int) : Spec Tryz.prog W [] 15 #[.agg (hC ho ho_rules_seats_a ho_rules_seats_c ho_parties_a ho_parties_c ho_cabins_a ho_cabins_c ho_todo_a ho_todo_c ho_jobs_a ho_jobs_c).toArray, vi id] (RV (vi (atId ho.parties id))) := by
 refine ENTER0 (N := 9) (vs := [.agg (hC ho ho_rules_seats_a ho_rules_seats_c ho_parties_a ho_parties_c ho_cabins_a ho_cabins_c ho_todo_a ho_todo_c ho_jobs_a ho_jobs_c).toArray, vi id]) Tryz.func15 rfl rfl (NL rfl) ?_
 have hho_rules_seats_len := hho_rules_seats.len
 have hho_parties_len := hho_parties.len
 have hho_cabins_len := hho_cabins.len
 have hho_todo_len := hho_todo.len
 have hho_jobs_len := hho_jobs.len
 refine SEQ (RG (UL 2 [(2, .p 0 0)] [(30, (hC ho ho_rules_seats_a ho_rules_seats_c ho_parties_a ho_parties_c ho_cabins_a ho_cabins_c ho_todo_a ho_todo_c ho_jobs_a ho_jobs_c))] (NR (UU 3 [(6, .v (.slice ho_parties_a ho.parties.length ho_parties_c)), (7, I id)] (OPC (CA 35 #[.slice ho_parties_a ho.parties.length ho_parties_c, vi id] (some 8) (RV (vi (atId ho.parties id))) (fun w hw => ipartyAt_c w ho.parties ho_parties_a ho_parties_c (hho_parties.fr hw.fr) id) ?_))))))
 rintro ⟨⟩
 refine UU 1 [(4, I (atId ho.parties id))] (ENDOPS (NEXT (RF rfl (vi (atId ho.parties id)) () [] ?_ ?_)))
 · rfl
 · rfl

end SX
end Go.Proofs.YtcbpmjfjdjpalaaGreatDoor
