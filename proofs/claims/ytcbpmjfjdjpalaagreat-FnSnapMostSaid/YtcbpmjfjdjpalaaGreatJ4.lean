/- Walks, printed by program. -/
import Derived.Test.YtcbpmjfjdjpalaaGreatMdlx
import Derived.Test.YtcbpmjfjdjpalaaGreatJ3
namespace Go.Proofs.YtcbpmjfjdjpalaaGreat
namespace SX
open Go Go.RowKit
set_option linter.unusedVariables false
set_option linter.unusedSimpArgs false
set_option maxRecDepth 10000
set_option maxHeartbeats 400000
theorem sHouseOk_c (W : World) (ho : House) (ho_rules_seats_a : Option Addr) (ho_rules_seats_c : Nat) (hho_rules_seats : Rd intL W ho_rules_seats_a ho.rules.seats) (ho_parties_a : Option Addr) (ho_parties_c : Nat) (hho_parties : Rd partyL W ho_parties_a ho.parties) (ho_cabins_a : Option Addr) (ho_cabins_c : Nat) (hho_cabins : Rd (cabinLx 63 99 114) W ho_cabins_a ho.cabins) (ho_todo_a : Option Addr) (ho_todo_c : Nat) (hho_todo : Rd intL W ho_todo_a ho.todo) (ho_jobs_a : Option Addr) (ho_jobs_c : Nat) (hho_jobs : Rd intL W ho_jobs_a ho.jobs) (hsz : HouseSz ho) (hcp : ho.parties.length ≤ ho_parties_c) (hct : ho.todo.length ≤ ho_todo_c) : Spec Tryz.prog W [] 14 #[.agg (hC ho ho_rules_seats_a ho_rules_seats_c ho_parties_a ho_parties_c ho_cabins_a ho_cabins_c ho_todo_a ho_todo_c ho_jobs_a ho_jobs_c).toArray] (RV (.bool (houseOk ho))) := by
 refine ENTER0 (N := 91) (vs := [.agg (hC ho ho_rules_seats_a ho_rules_seats_c ho_parties_a ho_parties_c ho_cabins_a ho_cabins_c ho_todo_a ho_todo_c ho_jobs_a ho_jobs_c).toArray]) Tryz.func14 rfl rfl (NL rfl) ?_
 have hs9 := hsz.1; have hs8 := hsz.2.1; have hs7 := hsz.2.2.1; have hs6 := hsz.2.2.2.1; have hs5 := hsz.2.2.2.2.1; have hs4 := hsz.2.2.2.2.2
 have hho_rules_seats_len := hho_rules_seats.len
 have hho_parties_len := hho_parties.len
 have hho_cabins_len := hho_cabins.len
 have hho_todo_len := hho_todo.len
 have hho_jobs_len := hho_jobs.len
 refine SEQ (RG (UL 2 [(1, .p 0 0)] [(30, (hC ho ho_rules_seats_a ho_rules_seats_c ho_parties_a ho_parties_c ho_cabins_a ho_cabins_c ho_todo_a ho_todo_c ho_jobs_a ho_jobs_c))] (ENDOPS (NEXT (SEQ (SEQ (RG (UU 2 [(5, .v (.agg #[.slice ho_rules_seats_a ho.rules.seats.length ho_rules_seats_c, vi ho.rules.tiers, vi ho.rules.room, vi ho.rules.size, vi ho.rules.period, vi ho.rules.window, vi ho.rules.rest, vi ho.rules.tries, vi ho.rules.crew]))] (OPC (CA 36 #[.agg #[.slice ho_rules_seats_a ho.rules.seats.length ho_rules_seats_c, vi ho.rules.tiers, vi ho.rules.room, vi ho.rules.size, vi ho.rules.period, vi ho.rules.window, vi ho.rules.rest, vi ho.rules.tries, vi ho.rules.crew]] (some 6) (RV (.bool (rulesOk ho.rules))) (fun w hw => sRulesOk_c w ho.rules ho_rules_seats_a ho_rules_seats_c (hho_rules_seats.fr hw.fr)) ?_))))))))))
 rintro ⟨⟩
 refine UU 2 [(8, B (!(rulesOk ho.rules)))] (SP 8 (!(rulesOk ho.rules)) (fun bh1 => ?_) (fun bh1 => ?_))
 ·
  have h1 := notT bh1
  refine UU 27 [(35, B true)] (ENDOPS (NEXT (IFT (by kernel_rfl) (SEQ (RG (UU 1 [(2, B false)] (ENDOPS (NEXT (RF rfl (.bool false) () [] ?_ ?_)))))))))
  · (first | (exact congrArg Value.bool (houseOk_t ⟨by assumption, by assumption, by assumption, by omega, by omega, partiesP_of (by assumption), jobsP_of (by assumption), hcc⟩).symm) | (refine congrArg Value.bool (houseOk_f fun hw9 => ?_).symm; obtain ⟨w1, w2, w3, w4, w5, w6, w7, w8⟩ := hw9; first | (exact absurd (w1.symm.trans (show rulesOk ho.rules = false by assumption)) (by decide)) | (exact absurd (w2.symm.trans (show inB ho.now 0 1000000 = false by assumption)) (by decide)) | (exact absurd (w3.symm.trans (show inB ho.turn 1 1000001 = false by assumption)) (by decide)) | omega | (exact not_partiesP (by assumption) w6) | (exact not_jobsP (by assumption) w7)))
  · rfl
 ·
  have h1 := notF bh1
  refine UU 2 [(10, I ho.now)] (OPC (CA 37 #[vi ho.now, vi 0, vi 1000000] (some 11) (RV (.bool (inB ho.now 0 1000000))) (fun w hw => l1In_c w ho.now 0 1000000) ?_))
  rintro ⟨⟩
  refine UU 3 [(14, B (!(inB ho.now 0 1000000)))] (SP 14 (!(inB ho.now 0 1000000)) (fun bh2 => ?_) (fun bh2 => ?_))
  ·
   have h2 := notT bh2
   refine UU 21 [(35, B true)] (ENDOPS (NEXT (IFT (by kernel_rfl) (SEQ (RG (UU 1 [(2, B false)] (ENDOPS (NEXT (RF rfl (.bool false) () [] ?_ ?_)))))))))
   · (first | (exact congrArg Value.bool (houseOk_t ⟨by assumption, by assumption, by assumption, by omega, by omega, partiesP_of (by assumption), jobsP_of (by assumption), hcc⟩).symm) | (refine congrArg Value.bool (houseOk_f fun hw9 => ?_).symm; obtain ⟨w1, w2, w3, w4, w5, w6, w7, w8⟩ := hw9; first | (exact absurd (w1.symm.trans (show rulesOk ho.rules = false by assumption)) (by decide)) | (exact absurd (w2.symm.trans (show inB ho.now 0 1000000 = false by assumption)) (by decide)) | (exact absurd (w3.symm.trans (show inB ho.turn 1 1000001 = false by assumption)) (by decide)) | omega | (exact not_partiesP (by assumption) w6) | (exact not_jobsP (by assumption) w7)))
   · rfl
  ·
   have h2 := notF bh2
   refine UU 2 [(16, I ho.turn)] (OPC (CA 37 #[vi ho.turn, vi 1, vi 1000001] (some 17) (RV (.bool (inB ho.turn 1 1000001))) (fun w hw => l1In_c w ho.turn 1 1000001) ?_))
   rintro ⟨⟩
   refine UU 3 [(20, B (!(inB ho.turn 1 1000001)))] (SP 20 (!(inB ho.turn 1 1000001)) (fun bh3 => ?_) (fun bh3 => ?_))
   ·
    have h3 := notT bh3
    refine UU 15 [(35, B true)] (ENDOPS (NEXT (IFT (by kernel_rfl) (SEQ (RG (UU 1 [(2, B false)] (ENDOPS (NEXT (RF rfl (.bool false) () [] ?_ ?_)))))))))
    · (first | (exact congrArg Value.bool (houseOk_t ⟨by assumption, by assumption, by assumption, by omega, by omega, partiesP_of (by assumption), jobsP_of (by assumption), hcc⟩).symm) | (refine congrArg Value.bool (houseOk_f fun hw9 => ?_).symm; obtain ⟨w1, w2, w3, w4, w5, w6, w7, w8⟩ := hw9; first | (exact absurd (w1.symm.trans (show rulesOk ho.rules = false by assumption)) (by decide)) | (exact absurd (w2.symm.trans (show inB ho.now 0 1000000 = false by assumption)) (by decide)) | (exact absurd (w3.symm.trans (show inB ho.turn 1 1000001 = false by assumption)) (by decide)) | omega | (exact not_partiesP (by assumption) w6) | (exact not_jobsP (by assumption) w7)))
    · rfl
   ·
    have h3 := notF bh3
    refine UU 6 [(26, B (decide ((ho.parties.length : Int) > 40)))] (SP 26 (decide ((ho.parties.length : Int) > 40)) (fun bh4 => ?_) (fun bh4 => ?_))
    ·
     have h4 := of_decide_eq_true bh4
     refine UU 9 [(35, B true)] (ENDOPS (NEXT (IFT (by kernel_rfl) (SEQ (RG (UU 1 [(2, B false)] (ENDOPS (NEXT (RF rfl (.bool false) () [] ?_ ?_)))))))))
     · (first | (exact congrArg Value.bool (houseOk_t ⟨by assumption, by assumption, by assumption, by omega, by omega, partiesP_of (by assumption), jobsP_of (by assumption), hcc⟩).symm) | (refine congrArg Value.bool (houseOk_f fun hw9 => ?_).symm; obtain ⟨w1, w2, w3, w4, w5, w6, w7, w8⟩ := hw9; first | (exact absurd (w1.symm.trans (show rulesOk ho.rules = false by assumption)) (by decide)) | (exact absurd (w2.symm.trans (show inB ho.now 0 1000000 = false by assumption)) (by decide)) | (exact absurd (w3.symm.trans (show inB ho.turn 1 1000001 = false by assumption)) (by decide)) | omega | (exact not_partiesP (by assumption) w6) | (exact not_jobsP (by assumption) w7)))
     · rfl
    ·
     have h4 := of_decide_eq_false bh4
     refine UU 9 [(35, B ((ho.cabins.length : Int) != (ho.rules.seats.length : Int)))] (NI ((ho.cabins.length : Int) != (ho.rules.seats.length : Int)) (fun bh5 => ?_) (fun bh5 => ?_))
     ·
      have h5 := bne_iff_ne.1 bh5
      refine SEQ (RG (UU 1 [(2, B false)] (ENDOPS (NEXT (RF rfl (.bool false) () [] ?_ ?_)))))
      · (first | (exact congrArg Value.bool (houseOk_t ⟨by assumption, by assumption, by assumption, by omega, by omega, partiesP_of (by assumption), jobsP_of (by assumption), hcc⟩).symm) | (refine congrArg Value.bool (houseOk_f fun hw9 => ?_).symm; obtain ⟨w1, w2, w3, w4, w5, w6, w7, w8⟩ := hw9; first | (exact absurd (w1.symm.trans (show rulesOk ho.rules = false by assumption)) (by decide)) | (exact absurd (w2.symm.trans (show inB ho.now 0 1000000 = false by assumption)) (by decide)) | (exact absurd (w3.symm.trans (show inB ho.turn 1 1000001 = false by assumption)) (by decide)) | omega | (exact not_partiesP (by assumption) w6) | (exact not_jobsP (by assumption) w7)))
      · rfl
     ·
      have h5 := bneF bh5
      refine SKIP (NEXT (SEQ (SEQ (RG (UU 1 [(36, .v (.agg (hC ho ho_rules_seats_a ho_rules_seats_c ho_parties_a ho_parties_c ho_cabins_a ho_cabins_c ho_todo_a ho_todo_c ho_jobs_a ho_jobs_c).toArray))] (OPC (CA 38 #[.agg (hC ho ho_rules_seats_a ho_rules_seats_c ho_parties_a ho_parties_c ho_cabins_a ho_cabins_c ho_todo_a ho_todo_c ho_jobs_a ho_jobs_c).toArray] (some 37) (RV (.bool (partiesOk ho))) (fun w hw => sParties_c w ho ho_rules_seats_a ho_rules_seats_c (hho_rules_seats.fr hw.fr) ho_parties_a ho_parties_c (hho_parties.fr hw.fr) ho_cabins_a ho_cabins_c (hho_cabins.fr hw.fr) ho_todo_a ho_todo_c (hho_todo.fr hw.fr) ho_jobs_a ho_jobs_c (hho_jobs.fr hw.fr)) ?_)))))))
      rintro ⟨⟩
      refine UU 2 [(39, B (!(partiesOk ho)))] (SP 39 (!(partiesOk ho)) (fun bh6 => ?_) (fun bh6 => ?_))
      ·
       have h6 := notT bh6
       refine UU 4 [(43, B true)] (ENDOPS (NEXT (IFT (by kernel_rfl) (SEQ (RG (UU 1 [(2, B false)] (ENDOPS (NEXT (RF rfl (.bool false) () [] ?_ ?_)))))))))
       · (first | (exact congrArg Value.bool (houseOk_t ⟨by assumption, by assumption, by assumption, by omega, by omega, partiesP_of (by assumption), jobsP_of (by assumption), hcc⟩).symm) | (refine congrArg Value.bool (houseOk_f fun hw9 => ?_).symm; obtain ⟨w1, w2, w3, w4, w5, w6, w7, w8⟩ := hw9; first | (exact absurd (w1.symm.trans (show rulesOk ho.rules = false by assumption)) (by decide)) | (exact absurd (w2.symm.trans (show inB ho.now 0 1000000 = false by assumption)) (by decide)) | (exact absurd (w3.symm.trans (show inB ho.turn 1 1000001 = false by assumption)) (by decide)) | omega | (exact not_partiesP (by assumption) w6) | (exact not_jobsP (by assumption) w7)))
       · rfl
      ·
       have h6 := notF bh6
       refine UU 1 [(40, .v (.agg (hC ho ho_rules_seats_a ho_rules_seats_c ho_parties_a ho_parties_c ho_cabins_a ho_cabins_c ho_todo_a ho_todo_c ho_jobs_a ho_jobs_c).toArray))] (OPC (CA 39 #[.agg (hC ho ho_rules_seats_a ho_rules_seats_c ho_parties_a ho_parties_c ho_cabins_a ho_cabins_c ho_todo_a ho_todo_c ho_jobs_a ho_jobs_c).toArray] (some 41) (RV (.bool (jobsOk ho))) (fun w hw => sJobs_c w ho ho_rules_seats_a ho_rules_seats_c (hho_rules_seats.fr hw.fr) ho_parties_a ho_parties_c (hho_parties.fr hw.fr) ho_cabins_a ho_cabins_c (hho_cabins.fr hw.fr) ho_todo_a ho_todo_c (hho_todo.fr hw.fr) ho_jobs_a ho_jobs_c (hho_jobs.fr hw.fr) (by first | assumption | omega | (dsimp only; omega) | (simp only [List.length_append, List.length_cons, List.length_nil] at *; omega))) ?_))
       rintro ⟨⟩
       refine UU 2 [(43, B (!(jobsOk ho)))] (NI (!(jobsOk ho)) (fun bh7 => ?_) (fun bh7 => ?_))
       ·
        have h7 := notT bh7
        refine SEQ (RG (UU 1 [(2, B false)] (ENDOPS (NEXT (RF rfl (.bool false) () [] ?_ ?_)))))
        · (first | (exact congrArg Value.bool (houseOk_t ⟨by assumption, by assumption, by assumption, by omega, by omega, partiesP_of (by assumption), jobsP_of (by assumption), hcc⟩).symm) | (refine congrArg Value.bool (houseOk_f fun hw9 => ?_).symm; obtain ⟨w1, w2, w3, w4, w5, w6, w7, w8⟩ := hw9; first | (exact absurd (w1.symm.trans (show rulesOk ho.rules = false by assumption)) (by decide)) | (exact absurd (w2.symm.trans (show inB ho.now 0 1000000 = false by assumption)) (by decide)) | (exact absurd (w3.symm.trans (show inB ho.turn 1 1000001 = false by assumption)) (by decide)) | omega | (exact not_partiesP (by assumption) w6) | (exact not_jobsP (by assumption) w7)))
        · rfl
       ·
        have h7 := notF bh7
        refine SKIP (NEXT (SEQ (SEQ (RG (UU 1 [(3, I 0)] (ENDOPS (NEXT (BLOCK (LOOP (ι := Nat × (List Cabin)) (fun j => [(1, .p 0 0), (3, I (j.1 : Int))]) (fun j => [(30, (hC ho ho_rules_seats_a ho_rules_seats_c ho_parties_a ho_parties_c ho_cabins_a ho_cabins_c ho_todo_a ho_todo_c ho_jobs_a ho_jobs_c))]) (fun j => []) (fun j => j.1 + j.2.length = ho.cabins.length ∧ ho.cabins.drop j.1 = j.2 ∧ (∀ (i : Nat) (c : Cabin), i < j.1 → ho.cabins[i]? = some c → CabinH ho i c)) (fun j => j.2.length) (0, ho.cabins) [1, 3] ⟨by simp, rfl, fun i c hi => absurd hi (Nat.not_lt_zero _)⟩ (by kernel_rfl) rfl rfl ?_)))))))))
        rintro ⟨k, ys⟩ ⟨hk, hd, hv0⟩
        try dsimp only at hk hd hv0
        refine SEQ (SEQ (RG (UU 5 [(48, B (decide ((k : Int) < (ho.cabins.length : Int))))] (NI (decide ((k : Int) < (ho.cabins.length : Int))) (fun bh8 => ?_) (fun bh8 => ?_)))))
        ·
         have h8 := of_decide_eq_true bh8
         obtain ⟨y9, ys10, rfl, hx_y9, hd_y9, hl_y9⟩ := drop_cons hd hk (by omega)
         have hcz := hs4 _ (List.mem_of_getElem? hx_y9); have hcz1 := hcz.1; have hcz3 := hcz.2.2
         refine SKIP (NEXT (SEQ (BLOCK (SEQ (REGIONQ (by kernel_rfl) (by kernel_rfl) (QU 3 [(52, .v (.slice ho_cabins_a ho.cabins.length ho_cabins_c)), (53, I (k : Int))] ?_))))))
         obtain ⟨a11, c12, a14, c15, hel17, hi13, hi16, hi13_cap, hi16_cap⟩ := cabin_view hho_cabins hx_y9
         have hi13_len := hi13.len
         have hi16_len := hi16.len
         refine QIX 28 (.tmp 52) (.tmp 53) 54 0 ho_cabins_a ho.cabins.length ho_cabins_c .i64 (k : Int) 60 7 (Rd.some hho_cabins (by omega)) (by omega) (by omega) (QU 2 [(56, .e ho_cabins_a (k * 7) 0)] (QLE 3 (.tmp 56) 57 3 ho_cabins_a (k * 7) 0 ([vi y9.seats.total, vi y9.seats.free, vi y9.seats.held, vi y9.seats.sold, vi y9.seats.tied, .slice a11 y9.row.length c12, .slice a14 y9.wheel.spoke.length c15]) (vi y9.seats.total) (fun w hw => hel17.fr hw.fr) (QU 4 [(60, .v (.slice ho_rules_seats_a ho.rules.seats.length ho_rules_seats_c)), (61, I (k : Int))] ?_)))
         obtain ⟨x18, hx19⟩ : ∃ y, ho.rules.seats[k]? = some y := ⟨_, List.getElem?_eq_getElem (by omega)⟩
         refine QIX 24 (.tmp 60) (.tmp 61) 62 0 ho_rules_seats_a ho.rules.seats.length ho_rules_seats_c .i64 (k : Int) 3 1 (Rd.some hho_rules_seats (by omega)) (by omega) (by omega) (QLE 3 (.tmp 62) 63 3 ho_rules_seats_a (k * 1) 0 ([vi x18]) (vi x18) (fun w hw => (hho_rules_seats.fr hw.fr).flat hx19) (QU 2 [(65, B (y9.seats.total != x18))] (QSP 65 (y9.seats.total != x18) (fun bh20 => ?_) (fun bh20 => ?_))))
         ·
          have h20 := bne_iff_ne.1 bh20
          refine QU 25 [(90, B true)] (QEND rfl (NEXT (IFT (by kernel_rfl) (SEQ (RG (UU 1 [(2, B false)] (ENDOPS (NEXT (RF rfl (.bool false) () [] ?_ ?_)))))))))
          · (first | (exact congrArg Value.bool (houseOk_t ⟨by assumption, by assumption, by assumption, by omega, by omega, partiesP_of (by assumption), jobsP_of (by assumption), hcc⟩).symm) | (refine congrArg Value.bool (houseOk_f fun hw9 => ?_).symm; obtain ⟨w1, w2, w3, w4, w5, w6, w7, w8⟩ := hw9; first | (exact absurd (w1.symm.trans (show rulesOk ho.rules = false by assumption)) (by decide)) | (exact absurd (w2.symm.trans (show inB ho.now 0 1000000 = false by assumption)) (by decide)) | (exact absurd (w3.symm.trans (show inB ho.turn 1 1000001 = false by assumption)) (by decide)) | omega | (exact not_partiesP (by assumption) w6) | (exact not_jobsP (by assumption) w7) | (have w9 := (w8 k _ hx_y9).1; rw [hx19] at w9; injection w9 with w9; omega) | (exact absurd ((w8 k _ hx_y9).2.1.symm.trans (show agrees ho.rules y9 ho.parties (k : Int) ho.now = false by assumption)) (by decide)) | (have w9 := (w8 k _ hx_y9).2.2; omega)))
          · rfl
         ·
          have h20 := bneF bh20
          refine QU 5 [(67, .v (.agg #[.slice ho_rules_seats_a ho.rules.seats.length ho_rules_seats_c, vi ho.rules.tiers, vi ho.rules.room, vi ho.rules.size, vi ho.rules.period, vi ho.rules.window, vi ho.rules.rest, vi ho.rules.tries, vi ho.rules.crew])), (69, .v (.slice ho_cabins_a ho.cabins.length ho_cabins_c)), (70, I (k : Int))] ?_
          obtain ⟨a21, c22, a24, c25, hel27, hi23, hi26, hi23_cap, hi26_cap⟩ := cabin_view hho_cabins hx_y9
          have hi23_len := hi23.len
          have hi26_len := hi26.len
          refine QIX 28 (.tmp 69) (.tmp 70) 71 0 ho_cabins_a ho.cabins.length ho_cabins_c .i64 (k : Int) 60 7 (Rd.some hho_cabins (by omega)) (by omega) (by omega) (QLE 60 (.tmp 71) 72 60 ho_cabins_a (k * 7) 0 ([vi y9.seats.total, vi y9.seats.free, vi y9.seats.held, vi y9.seats.sold, vi y9.seats.tied, .slice a21 y9.row.length c22, .slice a24 y9.wheel.spoke.length c25]) (.agg #[vi y9.seats.total, vi y9.seats.free, vi y9.seats.held, vi y9.seats.sold, vi y9.seats.tied, .slice a21 y9.row.length c22, .slice a24 y9.wheel.spoke.length c25]) (fun w hw => hel27.fr hw.fr) (QU 5 [(74, .v (.slice ho_parties_a ho.parties.length ho_parties_c)), (75, I (k : Int)), (77, I ho.now)] (QCA 40 #[.agg #[.slice ho_rules_seats_a ho.rules.seats.length ho_rules_seats_c, vi ho.rules.tiers, vi ho.rules.room, vi ho.rules.size, vi ho.rules.period, vi ho.rules.window, vi ho.rules.rest, vi ho.rules.tries, vi ho.rules.crew], .agg #[vi y9.seats.total, vi y9.seats.free, vi y9.seats.held, vi y9.seats.sold, vi y9.seats.tied, .slice a21 y9.row.length c22, .slice a24 y9.wheel.spoke.length c25], .slice ho_parties_a ho.parties.length ho_parties_c, vi (k : Int), vi ho.now] (some 78) (.bool (agrees ho.rules y9 ho.parties (k : Int) ho.now)) (fun w hw => sAgrees_c w ho.rules ho_rules_seats_a ho_rules_seats_c (hho_rules_seats.fr hw.fr) y9 a21 c22 (hi23.fr hw.fr) a24 c25 (hi26.fr hw.fr) ho.parties ho_parties_a ho_parties_c (hho_parties.fr hw.fr) (k : Int) ho.now (by first | assumption | omega | (dsimp only; omega) | (simp only [List.length_append, List.length_cons, List.length_nil] at *; omega)) (by first | assumption | omega | (dsimp only; omega) | (simp only [List.length_append, List.length_cons, List.length_nil] at *; omega))) ?_)))
          refine QU 3 [(81, B (!(agrees ho.rules y9 ho.parties (k : Int) ho.now)))] (QSP 81 (!(agrees ho.rules y9 ho.parties (k : Int) ho.now)) (fun bh28 => ?_) (fun bh28 => ?_))
          ·
           have h28 := notT bh28
           refine QU 9 [(90, B true)] (QEND rfl (NEXT (IFT (by kernel_rfl) (SEQ (RG (UU 1 [(2, B false)] (ENDOPS (NEXT (RF rfl (.bool false) () [] ?_ ?_)))))))))
           · (first | (exact congrArg Value.bool (houseOk_t ⟨by assumption, by assumption, by assumption, by omega, by omega, partiesP_of (by assumption), jobsP_of (by assumption), hcc⟩).symm) | (refine congrArg Value.bool (houseOk_f fun hw9 => ?_).symm; obtain ⟨w1, w2, w3, w4, w5, w6, w7, w8⟩ := hw9; first | (exact absurd (w1.symm.trans (show rulesOk ho.rules = false by assumption)) (by decide)) | (exact absurd (w2.symm.trans (show inB ho.now 0 1000000 = false by assumption)) (by decide)) | (exact absurd (w3.symm.trans (show inB ho.turn 1 1000001 = false by assumption)) (by decide)) | omega | (exact not_partiesP (by assumption) w6) | (exact not_jobsP (by assumption) w7) | (have w9 := (w8 k _ hx_y9).1; rw [hx19] at w9; injection w9 with w9; omega) | (exact absurd ((w8 k _ hx_y9).2.1.symm.trans (show agrees ho.rules y9 ho.parties (k : Int) ho.now = false by assumption)) (by decide)) | (have w9 := (w8 k _ hx_y9).2.2; omega)))
           · rfl
          ·
           have h28 := notF bh28
           refine QU 3 [(83, .v (.slice ho_parties_a ho.parties.length ho_parties_c)), (84, I (k : Int))] (QCA 41 #[.slice ho_parties_a ho.parties.length ho_parties_c, vi (k : Int)] (some 85) (vi (countGo ho.parties (k : Int) 0)) (fun w hw => sCountIn_c w ho.parties ho_parties_a ho_parties_c (hho_parties.fr hw.fr) (k : Int)) (QU 5 [(90, B (decide ((countGo ho.parties (k : Int) 0) > ho.rules.room)))] (QEND rfl (NEXT (IFK (decide ((countGo ho.parties (k : Int) 0) > ho.rules.room)) (fun bh29 => ?_) (fun bh29 => ?_))))))
           ·
            have h29 := of_decide_eq_true bh29
            refine SEQ (RG (UU 1 [(2, B false)] (ENDOPS (NEXT (RF rfl (.bool false) () [] ?_ ?_)))))
            · (first | (exact congrArg Value.bool (houseOk_t ⟨by assumption, by assumption, by assumption, by omega, by omega, partiesP_of (by assumption), jobsP_of (by assumption), hcc⟩).symm) | (refine congrArg Value.bool (houseOk_f fun hw9 => ?_).symm; obtain ⟨w1, w2, w3, w4, w5, w6, w7, w8⟩ := hw9; first | (exact absurd (w1.symm.trans (show rulesOk ho.rules = false by assumption)) (by decide)) | (exact absurd (w2.symm.trans (show inB ho.now 0 1000000 = false by assumption)) (by decide)) | (exact absurd (w3.symm.trans (show inB ho.turn 1 1000001 = false by assumption)) (by decide)) | omega | (exact not_partiesP (by assumption) w6) | (exact not_jobsP (by assumption) w7) | (have w9 := (w8 k _ hx_y9).1; rw [hx19] at w9; injection w9 with w9; omega) | (exact absurd ((w8 k _ hx_y9).2.1.symm.trans (show agrees ho.rules y9 ho.parties (k : Int) ho.now = false by assumption)) (by decide)) | (have w9 := (w8 k _ hx_y9).2.2; omega)))
            · rfl
           ·
            have h29 := of_decide_eq_false bh29
            refine SKIP (OUTN (NEXT (RG (UU 2 [(50, I (wr ((k : Int) + 1)))] (CS 50 (vi (wr ((k : Int) + 1))) (vi ((k + 1 : Nat) : Int)) (vi_cast (by omega) (by omega)) (UU 1 [(3, I ((k + 1 : Nat) : Int))] (ENDOPS (BK (k + 1, ys10) [1, 3] 1 [] ⟨hl_y9, hd_y9, (fun i c hi hc => by by_cases h9 : i = k; (subst h9; rw [hx_y9] at hc; injection hc with hc; subst hc; exact ⟨by rw [hx19]; congr 1; omega, by assumption, by omega⟩); exact hv0 i c (by omega) hc)⟩ (by simp)))))))))
        ·
         have h8 := of_decide_eq_false bh8
         obtain rfl := drop_nil hk (by omega)
         have hcc : ∀ (i : Nat) (c : Cabin), ho.cabins[i]? = some c → CabinH ho i c := fun i c hc => hv0 i c (by have := (List.getElem?_eq_some_iff.1 hc).1; simp at hk; omega) hc
         refine EXIT (PASS trivial (PASS trivial (OUT (NEXT (SEQ (RG (UU 1 [(2, B true)] (ENDOPS (NEXT (RF rfl (.bool true) () [] ?_ ?_))))))))))
         · (first | (exact congrArg Value.bool (houseOk_t ⟨by assumption, by assumption, by assumption, by omega, by omega, partiesP_of (by assumption), jobsP_of (by assumption), hcc⟩).symm) | (refine congrArg Value.bool (houseOk_f fun hw9 => ?_).symm; obtain ⟨w1, w2, w3, w4, w5, w6, w7, w8⟩ := hw9; first | (exact absurd (w1.symm.trans (show rulesOk ho.rules = false by assumption)) (by decide)) | (exact absurd (w2.symm.trans (show inB ho.now 0 1000000 = false by assumption)) (by decide)) | (exact absurd (w3.symm.trans (show inB ho.turn 1 1000001 = false by assumption)) (by decide)) | omega | (exact not_partiesP (by assumption) w6) | (exact not_jobsP (by assumption) w7)))
         · rfl

end SX
end Go.Proofs.YtcbpmjfjdjpalaaGreat
