/- Walks, printed by program. -/
import Derived.Test.YtgbfemglimebdaaGreatJ3
namespace Go.Proofs.YtgbfemglimebdaaGreat
namespace SX
open Go Go.RowKit
set_option linter.unusedVariables false
set_option linter.unusedSimpArgs false
set_option maxRecDepth 10000
set_option maxHeartbeats 400000
theorem sHouseOk_c (W : World) (ho : House) (ho_rules_seats_a : Option Addr) (ho_rules_seats_c : Nat) (hho_rules_seats : Rd intL W ho_rules_seats_a ho.rules.seats) (ho_parties_a : Option Addr) (ho_parties_c : Nat) (hho_parties : Rd partyL W ho_parties_a ho.parties) (ho_cabins_a : Option Addr) (ho_cabins_c : Nat) (hho_cabins : Rd (cabinLx 114 116 127) W ho_cabins_a ho.cabins) (ho_todo_a : Option Addr) (ho_todo_c : Nat) (hho_todo : Rd intL W ho_todo_a ho.todo) (ho_jobs_a : Option Addr) (ho_jobs_c : Nat) (hho_jobs : Rd intL W ho_jobs_a ho.jobs) (hsz : HouseSz ho) (hcp : ho.parties.length ≤ ho_parties_c) (hct : ho.todo.length ≤ ho_todo_c) : Spec Tryz.prog W [] 47 #[.agg #[.slice ho_rules_seats_a ho.rules.seats.length ho_rules_seats_c, vi ho.rules.tiers, vi ho.rules.room, vi ho.rules.size, vi ho.rules.period, vi ho.rules.window, vi ho.rules.rest, vi ho.rules.tries, vi ho.rules.crew, vi ho.now, vi ho.turn, .slice ho_parties_a ho.parties.length ho_parties_c, .slice ho_cabins_a ho.cabins.length ho_cabins_c, .slice ho_todo_a ho.todo.length ho_todo_c, .slice ho_jobs_a ho.jobs.length ho_jobs_c]] (RV (.bool (houseOk ho))) := by
 refine ENTER0 (N := 91) (vs := [.agg #[.slice ho_rules_seats_a ho.rules.seats.length ho_rules_seats_c, vi ho.rules.tiers, vi ho.rules.room, vi ho.rules.size, vi ho.rules.period, vi ho.rules.window, vi ho.rules.rest, vi ho.rules.tries, vi ho.rules.crew, vi ho.now, vi ho.turn, .slice ho_parties_a ho.parties.length ho_parties_c, .slice ho_cabins_a ho.cabins.length ho_cabins_c, .slice ho_todo_a ho.todo.length ho_todo_c, .slice ho_jobs_a ho.jobs.length ho_jobs_c]]) Tryz.func47 rfl rfl (NL rfl) ?_
 have hs9 := hsz.1; have hs8 := hsz.2.1; have hs7 := hsz.2.2.1; have hs6 := hsz.2.2.2.1; have hs5 := hsz.2.2.2.2.1; have hs4 := hsz.2.2.2.2.2
 have hho_rules_seats_len := hho_rules_seats.len
 have hho_parties_len := hho_parties.len
 have hho_cabins_len := hho_cabins.len
 have hho_todo_len := hho_todo.len
 have hho_jobs_len := hho_jobs.len
 refine SEQ (REGION [0, 1] rfl (RUL 2 [] [(1, .p 0 0)] [(35, [.slice ho_rules_seats_a ho.rules.seats.length ho_rules_seats_c, vi ho.rules.tiers, vi ho.rules.room, vi ho.rules.size, vi ho.rules.period, vi ho.rules.window, vi ho.rules.rest, vi ho.rules.tries, vi ho.rules.crew, vi ho.now, vi ho.turn, .slice ho_parties_a ho.parties.length ho_parties_c, .slice ho_cabins_a ho.cabins.length ho_cabins_c, .slice ho_todo_a ho.todo.length ho_todo_c, .slice ho_jobs_a ho.jobs.length ho_jobs_c])] (by kernel_rfl) rfl (ENDOPS (NEXT (SEQ (SEQ (REGION [0, 1, 2, 3, 4, 5, 6, 7, 8, 9, 10, 11, 12, 13, 14, 15, 16, 17, 18, 19, 20, 21, 22, 23, 24, 25, 26, 27, 28, 29, 30, 31] rfl (RU 2 [2, 3, 4, 5, 6, 7, 8, 9, 10, 11, 12, 13, 14, 15, 16, 17, 18, 19, 20, 21, 22, 23, 24, 25, 26, 27, 28, 29, 30, 31] [(5, .v (.agg #[.slice ho_rules_seats_a ho.rules.seats.length ho_rules_seats_c, vi ho.rules.tiers, vi ho.rules.room, vi ho.rules.size, vi ho.rules.period, vi ho.rules.window, vi ho.rules.rest, vi ho.rules.tries, vi ho.rules.crew]))] (by kernel_rfl) rfl (OPC (CALL 71 #[.agg #[.slice ho_rules_seats_a ho.rules.seats.length ho_rules_seats_c, vi ho.rules.tiers, vi ho.rules.room, vi ho.rules.size, vi ho.rules.period, vi ho.rules.window, vi ho.rules.rest, vi ho.rules.tries, vi ho.rules.crew]] (some 6) (by kernel_rfl) [] [] _ rfl (RV (.bool (rulesOk ho.rules))) (fun w hw => sRulesOk_c w ho.rules ho_rules_seats_a ho_rules_seats_c (hho_rules_seats.fr hw.fr)) (NO rfl) ?_))))))))))
 rintro ⟨⟩
 refine RU 2 [5, 6, 7, 8, 9, 10, 11, 12, 13, 14, 15, 16, 17, 18, 19, 20, 21, 22, 23, 24, 25, 26, 27, 28, 29, 30, 31] [(8, B (!(rulesOk ho.rules)))] (by kernel_rfl) rfl (SPLIT (d := 8) (!(rulesOk ho.rules)) (by kernel_rfl) (fun bh1 => ?_) (fun bh1 => ?_))
 ·
  have h1 := bh1
  have h1 := notT h1
  refine RU 27 [] [(35, B true)] (by kernel_rfl) rfl (ENDOPS (NEXT (IFT (by kernel_rfl) (SEQ (REGION [0] rfl (RU 1 [] [(2, B false)] (by kernel_rfl) rfl (ENDOPS (NEXT (RET (PASS trivial (FIN (.bool false) (by kernel_rfl) () ?_ [] ?_)))))))))))
  · (first | (exact congrArg Value.bool (houseOk_t ⟨by assumption, by assumption, by assumption, by omega, by omega, partiesP_of (by assumption), jobsP_of (by assumption), hcc⟩).symm) | (refine congrArg Value.bool (houseOk_f fun hw9 => ?_).symm; obtain ⟨w1, w2, w3, w4, w5, w6, w7, w8⟩ := hw9; first | (exact absurd (w1.symm.trans (show rulesOk ho.rules = false by assumption)) (by decide)) | (exact absurd (w2.symm.trans (show inB ho.now 0 1000000 = false by assumption)) (by decide)) | (exact absurd (w3.symm.trans (show inB ho.turn 1 1000001 = false by assumption)) (by decide)) | omega | (exact not_partiesP (by assumption) w6) | (exact not_jobsP (by assumption) w7)))
  · rfl
 ·
  have h1 := bh1
  have h1 := notF h1
  refine RU 2 [7, 8, 9, 10, 11, 12, 13, 14, 15, 16, 17, 18, 19, 20, 21, 22, 23, 24, 25, 26, 27, 28, 29, 30, 31] [(10, I ho.now)] (by kernel_rfl) rfl (OPC (CALL 58 #[vi ho.now, vi 0, vi 1000000] (some 11) (by kernel_rfl) [] [] _ rfl (RV (.bool (inB ho.now 0 1000000))) (fun w hw => l1In_c w ho.now 0 1000000) (NO rfl) ?_))
  rintro ⟨⟩
  refine RU 3 [11, 12, 13, 14, 15, 16, 17, 18, 19, 20, 21, 22, 23, 24, 25, 26, 27, 28, 29, 30, 31] [(14, B (!(inB ho.now 0 1000000)))] (by kernel_rfl) rfl (SPLIT (d := 14) (!(inB ho.now 0 1000000)) (by kernel_rfl) (fun bh2 => ?_) (fun bh2 => ?_))
  ·
   have h2 := bh2
   have h2 := notT h2
   refine RU 21 [] [(35, B true)] (by kernel_rfl) rfl (ENDOPS (NEXT (IFT (by kernel_rfl) (SEQ (REGION [0] rfl (RU 1 [] [(2, B false)] (by kernel_rfl) rfl (ENDOPS (NEXT (RET (PASS trivial (FIN (.bool false) (by kernel_rfl) () ?_ [] ?_)))))))))))
   · (first | (exact congrArg Value.bool (houseOk_t ⟨by assumption, by assumption, by assumption, by omega, by omega, partiesP_of (by assumption), jobsP_of (by assumption), hcc⟩).symm) | (refine congrArg Value.bool (houseOk_f fun hw9 => ?_).symm; obtain ⟨w1, w2, w3, w4, w5, w6, w7, w8⟩ := hw9; first | (exact absurd (w1.symm.trans (show rulesOk ho.rules = false by assumption)) (by decide)) | (exact absurd (w2.symm.trans (show inB ho.now 0 1000000 = false by assumption)) (by decide)) | (exact absurd (w3.symm.trans (show inB ho.turn 1 1000001 = false by assumption)) (by decide)) | omega | (exact not_partiesP (by assumption) w6) | (exact not_jobsP (by assumption) w7)))
   · rfl
  ·
   have h2 := bh2
   have h2 := notF h2
   refine RU 2 [13, 14, 15, 16, 17, 18, 19, 20, 21, 22, 23, 24, 25, 26, 27, 28, 29, 30, 31] [(16, I ho.turn)] (by kernel_rfl) rfl (OPC (CALL 58 #[vi ho.turn, vi 1, vi 1000001] (some 17) (by kernel_rfl) [] [] _ rfl (RV (.bool (inB ho.turn 1 1000001))) (fun w hw => l1In_c w ho.turn 1 1000001) (NO rfl) ?_))
   rintro ⟨⟩
   refine RU 3 [17, 18, 19, 20, 21, 22, 23, 24, 25, 26, 27, 28, 29, 30, 31] [(20, B (!(inB ho.turn 1 1000001)))] (by kernel_rfl) rfl (SPLIT (d := 20) (!(inB ho.turn 1 1000001)) (by kernel_rfl) (fun bh3 => ?_) (fun bh3 => ?_))
   ·
    have h3 := bh3
    have h3 := notT h3
    refine RU 15 [] [(35, B true)] (by kernel_rfl) rfl (ENDOPS (NEXT (IFT (by kernel_rfl) (SEQ (REGION [0] rfl (RU 1 [] [(2, B false)] (by kernel_rfl) rfl (ENDOPS (NEXT (RET (PASS trivial (FIN (.bool false) (by kernel_rfl) () ?_ [] ?_)))))))))))
    · (first | (exact congrArg Value.bool (houseOk_t ⟨by assumption, by assumption, by assumption, by omega, by omega, partiesP_of (by assumption), jobsP_of (by assumption), hcc⟩).symm) | (refine congrArg Value.bool (houseOk_f fun hw9 => ?_).symm; obtain ⟨w1, w2, w3, w4, w5, w6, w7, w8⟩ := hw9; first | (exact absurd (w1.symm.trans (show rulesOk ho.rules = false by assumption)) (by decide)) | (exact absurd (w2.symm.trans (show inB ho.now 0 1000000 = false by assumption)) (by decide)) | (exact absurd (w3.symm.trans (show inB ho.turn 1 1000001 = false by assumption)) (by decide)) | omega | (exact not_partiesP (by assumption) w6) | (exact not_jobsP (by assumption) w7)))
    · rfl
   ·
    have h3 := bh3
    have h3 := notF h3
    refine RU 6 [23, 24, 25, 26, 27, 28, 29, 30, 31] [(26, B (decide ((ho.parties.length : Int) > 40)))] (by kernel_rfl) rfl (SPLIT (d := 26) (decide ((ho.parties.length : Int) > 40)) (by kernel_rfl) (fun bh4 => ?_) (fun bh4 => ?_))
    ·
     have h4 := bh4
     have h4 := of_decide_eq_true h4
     refine RU 9 [] [(35, B true)] (by kernel_rfl) rfl (ENDOPS (NEXT (IFT (by kernel_rfl) (SEQ (REGION [0] rfl (RU 1 [] [(2, B false)] (by kernel_rfl) rfl (ENDOPS (NEXT (RET (PASS trivial (FIN (.bool false) (by kernel_rfl) () ?_ [] ?_)))))))))))
     · (first | (exact congrArg Value.bool (houseOk_t ⟨by assumption, by assumption, by assumption, by omega, by omega, partiesP_of (by assumption), jobsP_of (by assumption), hcc⟩).symm) | (refine congrArg Value.bool (houseOk_f fun hw9 => ?_).symm; obtain ⟨w1, w2, w3, w4, w5, w6, w7, w8⟩ := hw9; first | (exact absurd (w1.symm.trans (show rulesOk ho.rules = false by assumption)) (by decide)) | (exact absurd (w2.symm.trans (show inB ho.now 0 1000000 = false by assumption)) (by decide)) | (exact absurd (w3.symm.trans (show inB ho.turn 1 1000001 = false by assumption)) (by decide)) | omega | (exact not_partiesP (by assumption) w6) | (exact not_jobsP (by assumption) w7)))
     · rfl
    ·
     have h4 := bh4
     have h4 := of_decide_eq_false h4
     refine RU 9 [] [(35, B ((ho.cabins.length : Int) != (ho.rules.seats.length : Int)))] (by kernel_rfl) rfl (ENDOPS (NEXT (IF ((ho.cabins.length : Int) != (ho.rules.seats.length : Int)) (by kernel_rfl) (fun bh5 => ?_) (fun bh5 => ?_))))
     ·
      have h5 := bh5
      have h5 := bne_iff_ne.1 h5
      refine SEQ (REGION [0] rfl (RU 1 [] [(2, B false)] (by kernel_rfl) rfl (ENDOPS (NEXT (RET (PASS trivial (FIN (.bool false) (by kernel_rfl) () ?_ [] ?_)))))))
      · (first | (exact congrArg Value.bool (houseOk_t ⟨by assumption, by assumption, by assumption, by omega, by omega, partiesP_of (by assumption), jobsP_of (by assumption), hcc⟩).symm) | (refine congrArg Value.bool (houseOk_f fun hw9 => ?_).symm; obtain ⟨w1, w2, w3, w4, w5, w6, w7, w8⟩ := hw9; first | (exact absurd (w1.symm.trans (show rulesOk ho.rules = false by assumption)) (by decide)) | (exact absurd (w2.symm.trans (show inB ho.now 0 1000000 = false by assumption)) (by decide)) | (exact absurd (w3.symm.trans (show inB ho.turn 1 1000001 = false by assumption)) (by decide)) | omega | (exact not_partiesP (by assumption) w6) | (exact not_jobsP (by assumption) w7)))
      · rfl
     ·
      have h5 := bh5
      have h5 := bneF h5
      refine SKIP (NEXT (SEQ (SEQ (REGION [0, 1, 2, 3, 4, 5, 6, 7] rfl (RU 1 [1, 2, 3, 4, 5, 6, 7] [(36, .v (.agg #[.slice ho_rules_seats_a ho.rules.seats.length ho_rules_seats_c, vi ho.rules.tiers, vi ho.rules.room, vi ho.rules.size, vi ho.rules.period, vi ho.rules.window, vi ho.rules.rest, vi ho.rules.tries, vi ho.rules.crew, vi ho.now, vi ho.turn, .slice ho_parties_a ho.parties.length ho_parties_c, .slice ho_cabins_a ho.cabins.length ho_cabins_c, .slice ho_todo_a ho.todo.length ho_todo_c, .slice ho_jobs_a ho.jobs.length ho_jobs_c]))] (by kernel_rfl) rfl (OPC (CALL 72 #[.agg #[.slice ho_rules_seats_a ho.rules.seats.length ho_rules_seats_c, vi ho.rules.tiers, vi ho.rules.room, vi ho.rules.size, vi ho.rules.period, vi ho.rules.window, vi ho.rules.rest, vi ho.rules.tries, vi ho.rules.crew, vi ho.now, vi ho.turn, .slice ho_parties_a ho.parties.length ho_parties_c, .slice ho_cabins_a ho.cabins.length ho_cabins_c, .slice ho_todo_a ho.todo.length ho_todo_c, .slice ho_jobs_a ho.jobs.length ho_jobs_c]] (some 37) (by kernel_rfl) [] [] _ rfl (RV (.bool (partiesOk ho))) (fun w hw => sParties_c w ho ho_rules_seats_a ho_rules_seats_c (hho_rules_seats.fr hw.fr) ho_parties_a ho_parties_c (hho_parties.fr hw.fr) ho_cabins_a ho_cabins_c (hho_cabins.fr hw.fr) ho_todo_a ho_todo_c (hho_todo.fr hw.fr) ho_jobs_a ho_jobs_c (hho_jobs.fr hw.fr)) (NO rfl) ?_)))))))
      rintro ⟨⟩
      refine RU 2 [4, 5, 6, 7] [(39, B (!(partiesOk ho)))] (by kernel_rfl) rfl (SPLIT (d := 39) (!(partiesOk ho)) (by kernel_rfl) (fun bh6 => ?_) (fun bh6 => ?_))
      ·
       have h6 := bh6
       have h6 := notT h6
       refine RU 4 [] [(43, B true)] (by kernel_rfl) rfl (ENDOPS (NEXT (IFT (by kernel_rfl) (SEQ (REGION [0] rfl (RU 1 [] [(2, B false)] (by kernel_rfl) rfl (ENDOPS (NEXT (RET (PASS trivial (FIN (.bool false) (by kernel_rfl) () ?_ [] ?_)))))))))))
       · (first | (exact congrArg Value.bool (houseOk_t ⟨by assumption, by assumption, by assumption, by omega, by omega, partiesP_of (by assumption), jobsP_of (by assumption), hcc⟩).symm) | (refine congrArg Value.bool (houseOk_f fun hw9 => ?_).symm; obtain ⟨w1, w2, w3, w4, w5, w6, w7, w8⟩ := hw9; first | (exact absurd (w1.symm.trans (show rulesOk ho.rules = false by assumption)) (by decide)) | (exact absurd (w2.symm.trans (show inB ho.now 0 1000000 = false by assumption)) (by decide)) | (exact absurd (w3.symm.trans (show inB ho.turn 1 1000001 = false by assumption)) (by decide)) | omega | (exact not_partiesP (by assumption) w6) | (exact not_jobsP (by assumption) w7)))
       · rfl
      ·
       have h6 := bh6
       have h6 := notF h6
       refine RU 1 [5, 6, 7] [(40, .v (.agg #[.slice ho_rules_seats_a ho.rules.seats.length ho_rules_seats_c, vi ho.rules.tiers, vi ho.rules.room, vi ho.rules.size, vi ho.rules.period, vi ho.rules.window, vi ho.rules.rest, vi ho.rules.tries, vi ho.rules.crew, vi ho.now, vi ho.turn, .slice ho_parties_a ho.parties.length ho_parties_c, .slice ho_cabins_a ho.cabins.length ho_cabins_c, .slice ho_todo_a ho.todo.length ho_todo_c, .slice ho_jobs_a ho.jobs.length ho_jobs_c]))] (by kernel_rfl) rfl (OPC (CALL 73 #[.agg #[.slice ho_rules_seats_a ho.rules.seats.length ho_rules_seats_c, vi ho.rules.tiers, vi ho.rules.room, vi ho.rules.size, vi ho.rules.period, vi ho.rules.window, vi ho.rules.rest, vi ho.rules.tries, vi ho.rules.crew, vi ho.now, vi ho.turn, .slice ho_parties_a ho.parties.length ho_parties_c, .slice ho_cabins_a ho.cabins.length ho_cabins_c, .slice ho_todo_a ho.todo.length ho_todo_c, .slice ho_jobs_a ho.jobs.length ho_jobs_c]] (some 41) (by kernel_rfl) [] [] _ rfl (RV (.bool (jobsOk ho))) (fun w hw => sJobs_c w ho ho_rules_seats_a ho_rules_seats_c (hho_rules_seats.fr hw.fr) ho_parties_a ho_parties_c (hho_parties.fr hw.fr) ho_cabins_a ho_cabins_c (hho_cabins.fr hw.fr) ho_todo_a ho_todo_c (hho_todo.fr hw.fr) ho_jobs_a ho_jobs_c (hho_jobs.fr hw.fr) (by first | assumption | omega | (dsimp only; omega) | (simp only [List.length_append, List.length_cons, List.length_nil] at *; omega))) (NO rfl) ?_))
       rintro ⟨⟩
       refine RU 2 [] [(43, B (!(jobsOk ho)))] (by kernel_rfl) rfl (ENDOPS (NEXT (IF (!(jobsOk ho)) (by kernel_rfl) (fun bh7 => ?_) (fun bh7 => ?_))))
       ·
        have h7 := bh7
        have h7 := notT h7
        refine SEQ (REGION [0] rfl (RU 1 [] [(2, B false)] (by kernel_rfl) rfl (ENDOPS (NEXT (RET (PASS trivial (FIN (.bool false) (by kernel_rfl) () ?_ [] ?_)))))))
        · (first | (exact congrArg Value.bool (houseOk_t ⟨by assumption, by assumption, by assumption, by omega, by omega, partiesP_of (by assumption), jobsP_of (by assumption), hcc⟩).symm) | (refine congrArg Value.bool (houseOk_f fun hw9 => ?_).symm; obtain ⟨w1, w2, w3, w4, w5, w6, w7, w8⟩ := hw9; first | (exact absurd (w1.symm.trans (show rulesOk ho.rules = false by assumption)) (by decide)) | (exact absurd (w2.symm.trans (show inB ho.now 0 1000000 = false by assumption)) (by decide)) | (exact absurd (w3.symm.trans (show inB ho.turn 1 1000001 = false by assumption)) (by decide)) | omega | (exact not_partiesP (by assumption) w6) | (exact not_jobsP (by assumption) w7)))
        · rfl
       ·
        have h7 := bh7
        have h7 := notF h7
        refine SKIP (NEXT (SEQ (SEQ (REGION [0] rfl (RU 1 [] [(3, I 0)] (by kernel_rfl) rfl (ENDOPS (NEXT (BLOCK (LOOP (ι := Nat × (List Cabin)) (fun j => [(1, .p 0 0), (3, I (j.1 : Int))]) (fun j => [(35, [.slice ho_rules_seats_a ho.rules.seats.length ho_rules_seats_c, vi ho.rules.tiers, vi ho.rules.room, vi ho.rules.size, vi ho.rules.period, vi ho.rules.window, vi ho.rules.rest, vi ho.rules.tries, vi ho.rules.crew, vi ho.now, vi ho.turn, .slice ho_parties_a ho.parties.length ho_parties_c, .slice ho_cabins_a ho.cabins.length ho_cabins_c, .slice ho_todo_a ho.todo.length ho_todo_c, .slice ho_jobs_a ho.jobs.length ho_jobs_c])]) (fun j => []) (fun j => j.1 + j.2.length = ho.cabins.length ∧ ho.cabins.drop j.1 = j.2 ∧ (∀ (i : Nat) (c : Cabin), i < j.1 → ho.cabins[i]? = some c → CabinH ho i c)) (fun j => j.2.length) (0, ho.cabins) [1, 3] ⟨by simp, rfl, fun i c hi => absurd hi (Nat.not_lt_zero _)⟩ (by kernel_rfl) rfl rfl ?_)))))))))
        rintro ⟨k, ys⟩ ⟨hk, hd, hv0⟩
        try dsimp only at hk hd hv0
        refine SEQ (SEQ (REGION [0, 1, 2, 3, 4] rfl (RU 5 [] [(48, B (decide ((k : Int) < (ho.cabins.length : Int))))] (by kernel_rfl) rfl (ENDOPS (NEXT (IF (decide ((k : Int) < (ho.cabins.length : Int))) (by kernel_rfl) (fun bh8 => ?_) (fun bh8 => ?_)))))))
        ·
         have h8 := bh8
         have h8 := of_decide_eq_true h8
         obtain ⟨y9, ys10, rfl, hx_y9, hd_y9, hl_y9⟩ := drop_cons hd hk (by omega)
         have hcz := hs4 _ (List.mem_of_getElem? hx_y9); have hcz1 := hcz.1; have hcz3 := hcz.2.2
         refine SKIP (NEXT (SEQ (BLOCK (SEQ (REGIONQ (by kernel_rfl) (by kernel_rfl) (QRU 3 0 3 [(52, .v (.slice ho_cabins_a ho.cabins.length ho_cabins_c)), (53, I (k : Int))] (by kernel_rfl) rfl ?_))))))
         obtain ⟨a11, c12, a14, c15, hel17, hi13, hi16, hi13_cap, hi16_cap⟩ := cabin_view hho_cabins hx_y9
         have hi13_len := hi13.len
         have hi16_len := hi16.len
         refine QINDEX 33 (.tmp 52) (.tmp 53) 54 0 (by kernel_rfl) (NL rfl) ho_cabins_a ho.cabins.length ho_cabins_c .i64 (k : Int) 74 7 (by kernel_rfl) (by kernel_rfl) (by kernel_rfl) (by kernel_rfl) (Rd.some hho_cabins (by omega)) (by omega) (by omega) (QRU 2 4 6 [(56, .e ho_cabins_a (k * 7) 0)] (by kernel_rfl) rfl (QLOADE 3 (.tmp 56) 57 3 (by kernel_rfl) (NL rfl) ho_cabins_a (k * 7) 0 ([vi y9.seats.total, vi y9.seats.free, vi y9.seats.held, vi y9.seats.sold, vi y9.seats.tied, .slice a11 y9.row.length c12, .slice a14 y9.wheel.spoke.length c15]) (vi y9.seats.total) (by kernel_rfl) (fun w hw => hel17.fr hw.fr) (by kernel_rfl) (QRU 4 7 11 [(60, .v (.slice ho_rules_seats_a ho.rules.seats.length ho_rules_seats_c)), (61, I (k : Int))] (by kernel_rfl) rfl ?_)))
         obtain ⟨x18, hx19⟩ : ∃ y, ho.rules.seats[k]? = some y := ⟨_, List.getElem?_eq_getElem (by omega)⟩
         refine QINDEX 22 (.tmp 60) (.tmp 61) 62 0 (by kernel_rfl) (NL rfl) ho_rules_seats_a ho.rules.seats.length ho_rules_seats_c .i64 (k : Int) 3 1 (by kernel_rfl) (by kernel_rfl) (by kernel_rfl) (by kernel_rfl) (Rd.some hho_rules_seats (by omega)) (by omega) (by omega) (QLOADE 3 (.tmp 62) 63 3 (by kernel_rfl) (NL rfl) ho_rules_seats_a (k * 1) 0 ([vi x18]) (vi x18) (by kernel_rfl) (fun w hw => (hho_rules_seats.fr hw.fr).flat hx19) (by kernel_rfl) (QRU 2 13 15 [(65, B (y9.seats.total != x18))] (by kernel_rfl) rfl (QSPLIT (d := 65) (y9.seats.total != x18) (by kernel_rfl) (fun bh20 => ?_) (fun bh20 => ?_))))
         ·
          have h20 := bh20
          have h20 := bne_iff_ne.1 h20
          refine QRU 25 15 40 [(90, B true)] (by kernel_rfl) rfl (QEND rfl (NEXT (IFT (by kernel_rfl) (SEQ (REGION [0] rfl (RU 1 [] [(2, B false)] (by kernel_rfl) rfl (ENDOPS (NEXT (RET (OUTR (PASS trivial (PASS trivial (OUTR (PASS trivial (FIN (.bool false) (by kernel_rfl) () ?_ [] ?_)))))))))))))))
          · (first | (exact congrArg Value.bool (houseOk_t ⟨by assumption, by assumption, by assumption, by omega, by omega, partiesP_of (by assumption), jobsP_of (by assumption), hcc⟩).symm) | (refine congrArg Value.bool (houseOk_f fun hw9 => ?_).symm; obtain ⟨w1, w2, w3, w4, w5, w6, w7, w8⟩ := hw9; first | (exact absurd (w1.symm.trans (show rulesOk ho.rules = false by assumption)) (by decide)) | (exact absurd (w2.symm.trans (show inB ho.now 0 1000000 = false by assumption)) (by decide)) | (exact absurd (w3.symm.trans (show inB ho.turn 1 1000001 = false by assumption)) (by decide)) | omega | (exact not_partiesP (by assumption) w6) | (exact not_jobsP (by assumption) w7) | (have w9 := (w8 k _ hx_y9).1; rw [hx19] at w9; injection w9 with w9; omega) | (exact absurd ((w8 k _ hx_y9).2.1.symm.trans (show agrees ho.rules y9 ho.parties (k : Int) ho.now = false by assumption)) (by decide)) | (have w9 := (w8 k _ hx_y9).2.2; omega)))
          · rfl
         ·
          have h20 := bh20
          have h20 := bneF h20
          refine QRU 5 15 20 [(67, .v (.agg #[.slice ho_rules_seats_a ho.rules.seats.length ho_rules_seats_c, vi ho.rules.tiers, vi ho.rules.room, vi ho.rules.size, vi ho.rules.period, vi ho.rules.window, vi ho.rules.rest, vi ho.rules.tries, vi ho.rules.crew])), (69, .v (.slice ho_cabins_a ho.cabins.length ho_cabins_c)), (70, I (k : Int))] (by kernel_rfl) rfl ?_
          obtain ⟨a21, c22, a24, c25, hel27, hi23, hi26, hi23_cap, hi26_cap⟩ := cabin_view hho_cabins hx_y9
          have hi23_len := hi23.len
          have hi26_len := hi26.len
          refine QINDEX 33 (.tmp 69) (.tmp 70) 71 0 (by kernel_rfl) (NL rfl) ho_cabins_a ho.cabins.length ho_cabins_c .i64 (k : Int) 74 7 (by kernel_rfl) (by kernel_rfl) (by kernel_rfl) (by kernel_rfl) (Rd.some hho_cabins (by omega)) (by omega) (by omega) (QLOADE 74 (.tmp 71) 72 74 (by kernel_rfl) (NL rfl) ho_cabins_a (k * 7) 0 ([vi y9.seats.total, vi y9.seats.free, vi y9.seats.held, vi y9.seats.sold, vi y9.seats.tied, .slice a21 y9.row.length c22, .slice a24 y9.wheel.spoke.length c25]) (.agg #[vi y9.seats.total, vi y9.seats.free, vi y9.seats.held, vi y9.seats.sold, vi y9.seats.tied, .slice a21 y9.row.length c22, .slice a24 y9.wheel.spoke.length c25]) (by kernel_rfl) (fun w hw => hel27.fr hw.fr) (by kernel_rfl) (QRU 5 22 27 [(74, .v (.slice ho_parties_a ho.parties.length ho_parties_c)), (75, I (k : Int)), (77, I ho.now)] (by kernel_rfl) rfl (QCALL 74 #[.agg #[.slice ho_rules_seats_a ho.rules.seats.length ho_rules_seats_c, vi ho.rules.tiers, vi ho.rules.room, vi ho.rules.size, vi ho.rules.period, vi ho.rules.window, vi ho.rules.rest, vi ho.rules.tries, vi ho.rules.crew], .agg #[vi y9.seats.total, vi y9.seats.free, vi y9.seats.held, vi y9.seats.sold, vi y9.seats.tied, .slice a21 y9.row.length c22, .slice a24 y9.wheel.spoke.length c25], .slice ho_parties_a ho.parties.length ho_parties_c, vi (k : Int), vi ho.now] (some 78) (by kernel_rfl) (.bool (agrees ho.rules y9 ho.parties (k : Int) ho.now)) (fun w hw => sAgrees_c w ho.rules ho_rules_seats_a ho_rules_seats_c (hho_rules_seats.fr hw.fr) y9 a21 c22 (hi23.fr hw.fr) a24 c25 (hi26.fr hw.fr) ho.parties ho_parties_a ho_parties_c (hho_parties.fr hw.fr) (k : Int) ho.now (by first | assumption | omega | (dsimp only; omega) | (simp only [List.length_append, List.length_cons, List.length_nil] at *; omega)) (by first | assumption | omega | (dsimp only; omega) | (simp only [List.length_append, List.length_cons, List.length_nil] at *; omega))) (NO rfl) ?_)))
          refine QRU 3 28 31 [(81, B (!(agrees ho.rules y9 ho.parties (k : Int) ho.now)))] (by kernel_rfl) rfl (QSPLIT (d := 81) (!(agrees ho.rules y9 ho.parties (k : Int) ho.now)) (by kernel_rfl) (fun bh28 => ?_) (fun bh28 => ?_))
          ·
           have h28 := bh28
           have h28 := notT h28
           refine QRU 9 31 40 [(90, B true)] (by kernel_rfl) rfl (QEND rfl (NEXT (IFT (by kernel_rfl) (SEQ (REGION [0] rfl (RU 1 [] [(2, B false)] (by kernel_rfl) rfl (ENDOPS (NEXT (RET (OUTR (PASS trivial (PASS trivial (OUTR (PASS trivial (FIN (.bool false) (by kernel_rfl) () ?_ [] ?_)))))))))))))))
           · (first | (exact congrArg Value.bool (houseOk_t ⟨by assumption, by assumption, by assumption, by omega, by omega, partiesP_of (by assumption), jobsP_of (by assumption), hcc⟩).symm) | (refine congrArg Value.bool (houseOk_f fun hw9 => ?_).symm; obtain ⟨w1, w2, w3, w4, w5, w6, w7, w8⟩ := hw9; first | (exact absurd (w1.symm.trans (show rulesOk ho.rules = false by assumption)) (by decide)) | (exact absurd (w2.symm.trans (show inB ho.now 0 1000000 = false by assumption)) (by decide)) | (exact absurd (w3.symm.trans (show inB ho.turn 1 1000001 = false by assumption)) (by decide)) | omega | (exact not_partiesP (by assumption) w6) | (exact not_jobsP (by assumption) w7) | (have w9 := (w8 k _ hx_y9).1; rw [hx19] at w9; injection w9 with w9; omega) | (exact absurd ((w8 k _ hx_y9).2.1.symm.trans (show agrees ho.rules y9 ho.parties (k : Int) ho.now = false by assumption)) (by decide)) | (have w9 := (w8 k _ hx_y9).2.2; omega)))
           · rfl
          ·
           have h28 := bh28
           have h28 := notF h28
           refine QRU 3 31 34 [(83, .v (.slice ho_parties_a ho.parties.length ho_parties_c)), (84, I (k : Int))] (by kernel_rfl) rfl (QCALL 75 #[.slice ho_parties_a ho.parties.length ho_parties_c, vi (k : Int)] (some 85) (by kernel_rfl) (vi (countGo ho.parties (k : Int) 0)) (fun w hw => sCountIn_c w ho.parties ho_parties_a ho_parties_c (hho_parties.fr hw.fr) (k : Int)) (NO rfl) (QRU 5 35 40 [(90, B (decide ((countGo ho.parties (k : Int) 0) > ho.rules.room)))] (by kernel_rfl) rfl (QEND rfl (NEXT (IF (decide ((countGo ho.parties (k : Int) 0) > ho.rules.room)) (by kernel_rfl) (fun bh29 => ?_) (fun bh29 => ?_))))))
           ·
            have h29 := bh29
            have h29 := of_decide_eq_true h29
            refine SEQ (REGION [0] rfl (RU 1 [] [(2, B false)] (by kernel_rfl) rfl (ENDOPS (NEXT (RET (OUTR (PASS trivial (PASS trivial (OUTR (PASS trivial (FIN (.bool false) (by kernel_rfl) () ?_ [] ?_)))))))))))
            · (first | (exact congrArg Value.bool (houseOk_t ⟨by assumption, by assumption, by assumption, by omega, by omega, partiesP_of (by assumption), jobsP_of (by assumption), hcc⟩).symm) | (refine congrArg Value.bool (houseOk_f fun hw9 => ?_).symm; obtain ⟨w1, w2, w3, w4, w5, w6, w7, w8⟩ := hw9; first | (exact absurd (w1.symm.trans (show rulesOk ho.rules = false by assumption)) (by decide)) | (exact absurd (w2.symm.trans (show inB ho.now 0 1000000 = false by assumption)) (by decide)) | (exact absurd (w3.symm.trans (show inB ho.turn 1 1000001 = false by assumption)) (by decide)) | omega | (exact not_partiesP (by assumption) w6) | (exact not_jobsP (by assumption) w7) | (have w9 := (w8 k _ hx_y9).1; rw [hx19] at w9; injection w9 with w9; omega) | (exact absurd ((w8 k _ hx_y9).2.1.symm.trans (show agrees ho.rules y9 ho.parties (k : Int) ho.now = false by assumption)) (by decide)) | (have w9 := (w8 k _ hx_y9).2.2; omega)))
            · rfl
           ·
            have h29 := bh29
            have h29 := of_decide_eq_false h29
            refine SKIP (OUTN (NEXT (REGION [0, 1, 2] rfl (RU 2 [2] [(50, I (wr ((k : Int) + 1)))] (by kernel_rfl) rfl (CAST (d := 50) (vi (wr ((k : Int) + 1))) (vi ((k + 1 : Nat) : Int)) (by kernel_rfl) (vi_cast (by omega) (by omega)) (RU 1 [] [(3, I ((k + 1 : Nat) : Int))] (by kernel_rfl) rfl (ENDOPS (BACK (k + 1, ys10) [1, 3] 1 [] _ ⟨hl_y9, hd_y9, (fun i c hi hc => by by_cases h9 : i = k; (subst h9; rw [hx_y9] at hc; injection hc with hc; subst hc; exact ⟨by rw [hx19]; congr 1; omega, by assumption, by omega⟩); exact hv0 i c (by omega) hc)⟩ (by simp) (by kernel_rfl) rfl rfl rfl))))))))
        ·
         have h8 := bh8
         have h8 := of_decide_eq_false h8
         obtain rfl := drop_nil hk (by omega)
         have hcc : ∀ (i : Nat) (c : Cabin), ho.cabins[i]? = some c → CabinH ho i c := fun i c hc => hv0 i c (by have := (List.getElem?_eq_some_iff.1 hc).1; simp at hk; omega) hc
         refine EXIT (PASS trivial (PASS trivial (OUT (NEXT (SEQ (REGION [0] rfl (RU 1 [] [(2, B true)] (by kernel_rfl) rfl (ENDOPS (NEXT (RET (FIN (.bool true) (by kernel_rfl) () ?_ [] ?_)))))))))))
         · (first | (exact congrArg Value.bool (houseOk_t ⟨by assumption, by assumption, by assumption, by omega, by omega, partiesP_of (by assumption), jobsP_of (by assumption), hcc⟩).symm) | (refine congrArg Value.bool (houseOk_f fun hw9 => ?_).symm; obtain ⟨w1, w2, w3, w4, w5, w6, w7, w8⟩ := hw9; first | (exact absurd (w1.symm.trans (show rulesOk ho.rules = false by assumption)) (by decide)) | (exact absurd (w2.symm.trans (show inB ho.now 0 1000000 = false by assumption)) (by decide)) | (exact absurd (w3.symm.trans (show inB ho.turn 1 1000001 = false by assumption)) (by decide)) | omega | (exact not_partiesP (by assumption) w6) | (exact not_jobsP (by assumption) w7)))
         · rfl

theorem s15Ok_c (W : World) (ho : House) (ho_rules_seats_a : Option Addr) (ho_rules_seats_c : Nat) (hho_rules_seats : Rd intL W ho_rules_seats_a ho.rules.seats) (ho_parties_a : Option Addr) (ho_parties_c : Nat) (hho_parties : Rd partyL W ho_parties_a ho.parties) (ho_cabins_a : Option Addr) (ho_cabins_c : Nat) (hho_cabins : Rd (cabinLx 114 116 127) W ho_cabins_a ho.cabins) (ho_todo_a : Option Addr) (ho_todo_c : Nat) (hho_todo : Rd intL W ho_todo_a ho.todo) (ho_jobs_a : Option Addr) (ho_jobs_c : Nat) (hho_jobs : Rd intL W ho_jobs_a ho.jobs) (cabin : Int) (hsz : HouseSz ho) (hcp : ho.parties.length ≤ ho_parties_c) (hct : ho.todo.length ≤ ho_todo_c) : Spec Tryz.prog W [] 26 #[.agg #[.slice ho_rules_seats_a ho.rules.seats.length ho_rules_seats_c, vi ho.rules.tiers, vi ho.rules.room, vi ho.rules.size, vi ho.rules.period, vi ho.rules.window, vi ho.rules.rest, vi ho.rules.tries, vi ho.rules.crew, vi ho.now, vi ho.turn, .slice ho_parties_a ho.parties.length ho_parties_c, .slice ho_cabins_a ho.cabins.length ho_cabins_c, .slice ho_todo_a ho.todo.length ho_todo_c, .slice ho_jobs_a ho.jobs.length ho_jobs_c], vi cabin] (RV (.bool (hasCab ho cabin))) := by
 refine ENTER0 (N := 15) (vs := [.agg #[.slice ho_rules_seats_a ho.rules.seats.length ho_rules_seats_c, vi ho.rules.tiers, vi ho.rules.room, vi ho.rules.size, vi ho.rules.period, vi ho.rules.window, vi ho.rules.rest, vi ho.rules.tries, vi ho.rules.crew, vi ho.now, vi ho.turn, .slice ho_parties_a ho.parties.length ho_parties_c, .slice ho_cabins_a ho.cabins.length ho_cabins_c, .slice ho_todo_a ho.todo.length ho_todo_c, .slice ho_jobs_a ho.jobs.length ho_jobs_c], vi cabin]) Tryz.func26 rfl rfl (NL rfl) ?_
 have hho_rules_seats_len := hho_rules_seats.len
 have hho_parties_len := hho_parties.len
 have hho_cabins_len := hho_cabins.len
 have hho_todo_len := hho_todo.len
 have hho_jobs_len := hho_jobs.len
 refine SEQ (REGION [0, 1] rfl (RUL 2 [] [(2, .p 0 0)] [(35, [.slice ho_rules_seats_a ho.rules.seats.length ho_rules_seats_c, vi ho.rules.tiers, vi ho.rules.room, vi ho.rules.size, vi ho.rules.period, vi ho.rules.window, vi ho.rules.rest, vi ho.rules.tries, vi ho.rules.crew, vi ho.now, vi ho.turn, .slice ho_parties_a ho.parties.length ho_parties_c, .slice ho_cabins_a ho.cabins.length ho_cabins_c, .slice ho_todo_a ho.todo.length ho_todo_c, .slice ho_jobs_a ho.jobs.length ho_jobs_c])] (by kernel_rfl) rfl (ENDOPS (NEXT (SEQ (REGION [0, 1, 2, 3, 4, 5, 6, 7, 8, 9, 10] rfl (RU 1 [1, 2, 3, 4, 5, 6, 7, 8, 9, 10] [(5, .v (.agg #[.slice ho_rules_seats_a ho.rules.seats.length ho_rules_seats_c, vi ho.rules.tiers, vi ho.rules.room, vi ho.rules.size, vi ho.rules.period, vi ho.rules.window, vi ho.rules.rest, vi ho.rules.tries, vi ho.rules.crew, vi ho.now, vi ho.turn, .slice ho_parties_a ho.parties.length ho_parties_c, .slice ho_cabins_a ho.cabins.length ho_cabins_c, .slice ho_todo_a ho.todo.length ho_todo_c, .slice ho_jobs_a ho.jobs.length ho_jobs_c]))] (by kernel_rfl) rfl (OPC (CALL 47 #[.agg #[.slice ho_rules_seats_a ho.rules.seats.length ho_rules_seats_c, vi ho.rules.tiers, vi ho.rules.room, vi ho.rules.size, vi ho.rules.period, vi ho.rules.window, vi ho.rules.rest, vi ho.rules.tries, vi ho.rules.crew, vi ho.now, vi ho.turn, .slice ho_parties_a ho.parties.length ho_parties_c, .slice ho_cabins_a ho.cabins.length ho_cabins_c, .slice ho_todo_a ho.todo.length ho_todo_c, .slice ho_jobs_a ho.jobs.length ho_jobs_c]] (some 6) (by kernel_rfl) [] [] _ rfl (RV (.bool (houseOk ho))) (fun w hw => sHouseOk_c w ho ho_rules_seats_a ho_rules_seats_c (hho_rules_seats.fr hw.fr) ho_parties_a ho_parties_c (hho_parties.fr hw.fr) ho_cabins_a ho_cabins_c (hho_cabins.fr hw.fr) ho_todo_a ho_todo_c (hho_todo.fr hw.fr) ho_jobs_a ho_jobs_c (hho_jobs.fr hw.fr) (by assumption) (by first | assumption | omega | (dsimp only; omega) | (simp only [List.length_append, List.length_cons, List.length_nil] at *; omega)) (by first | assumption | omega | (dsimp only; omega) | (simp only [List.length_append, List.length_cons, List.length_nil] at *; omega))) (NO rfl) ?_)))))))))
 rintro ⟨⟩
 refine RU 1 [3, 4, 5, 6, 7, 8, 9, 10] [(7, B (houseOk ho))] (by kernel_rfl) rfl (SPLIT (d := 7) (houseOk ho) (by kernel_rfl) (fun bh1 => ?_) (fun bh1 => ?_))
 ·
  have h1 := bh1
  refine RU 5 [8, 9, 10] [(8, I cabin), (12, I (wr ((ho.cabins.length : Int) - 1)))] (by kernel_rfl) rfl (OPC (CALL 58 #[vi cabin, vi 0, vi (wr ((ho.cabins.length : Int) - 1))] (some 13) (by kernel_rfl) [] [] _ rfl (RV (.bool (inB cabin 0 (wr ((ho.cabins.length : Int) - 1))))) (fun w hw => l1In_c w cabin 0 (wr ((ho.cabins.length : Int) - 1))) (NO rfl) ?_))
  rintro ⟨⟩
  refine RU 2 [] [(4, B (inB cabin 0 (wr ((ho.cabins.length : Int) - 1))))] (by kernel_rfl) rfl (ENDOPS (NEXT (RET (FIN (.bool (inB cabin 0 (wr ((ho.cabins.length : Int) - 1)))) (by kernel_rfl) () ?_ [] ?_))))
  · (first | (simp_all [RV, hasCab]; done) | (simp [RV, hasCab, *]; done))
  · rfl
 ·
  have h1 := bh1
  refine RU 8 [] [(4, B false)] (by kernel_rfl) rfl (ENDOPS (NEXT (RET (FIN (.bool false) (by kernel_rfl) () ?_ [] ?_))))
  · (first | (simp_all [RV, hasCab]; done) | (simp [RV, hasCab, *]; done))
  · rfl

theorem s27Linked_c (W : World) (ho : House) (ho_rules_seats_a : Option Addr) (ho_rules_seats_c : Nat) (hho_rules_seats : Rd intL W ho_rules_seats_a ho.rules.seats) (ho_parties_a : Option Addr) (ho_parties_c : Nat) (hho_parties : Rd partyL W ho_parties_a ho.parties) (ho_cabins_a : Option Addr) (ho_cabins_c : Nat) (hho_cabins : Rd (cabinLx 114 116 127) W ho_cabins_a ho.cabins) (ho_todo_a : Option Addr) (ho_todo_c : Nat) (hho_todo : Rd intL W ho_todo_a ho.todo) (ho_jobs_a : Option Addr) (ho_jobs_c : Nat) (hho_jobs : Rd intL W ho_jobs_a ho.jobs) (cabin : Int) (hsz : HouseSz ho) : Spec Tryz.prog W [] 27 #[.agg #[.slice ho_rules_seats_a ho.rules.seats.length ho_rules_seats_c, vi ho.rules.tiers, vi ho.rules.room, vi ho.rules.size, vi ho.rules.period, vi ho.rules.window, vi ho.rules.rest, vi ho.rules.tries, vi ho.rules.crew, vi ho.now, vi ho.turn, .slice ho_parties_a ho.parties.length ho_parties_c, .slice ho_cabins_a ho.cabins.length ho_cabins_c, .slice ho_todo_a ho.todo.length ho_todo_c, .slice ho_jobs_a ho.jobs.length ho_jobs_c], vi cabin] (⟨HH, fun p => .slice p.1 ((linkedOf ho cabin).length) p.2, fun p => [slA 3 intL (.slice p.1 (linkedOf ho cabin).length p.2) (linkedOf ho cabin)]⟩) := by
 refine ENTER0 (N := 46) (vs := [.agg #[.slice ho_rules_seats_a ho.rules.seats.length ho_rules_seats_c, vi ho.rules.tiers, vi ho.rules.room, vi ho.rules.size, vi ho.rules.period, vi ho.rules.window, vi ho.rules.rest, vi ho.rules.tries, vi ho.rules.crew, vi ho.now, vi ho.turn, .slice ho_parties_a ho.parties.length ho_parties_c, .slice ho_cabins_a ho.cabins.length ho_cabins_c, .slice ho_todo_a ho.todo.length ho_todo_c, .slice ho_jobs_a ho.jobs.length ho_jobs_c], vi cabin]) Tryz.func27 rfl rfl (NL rfl) ?_
 have hs9 := hsz.1; have hs8 := hsz.2.1; have hs7 := hsz.2.2.1; have hs6 := hsz.2.2.2.1; have hs5 := hsz.2.2.2.2.1; have hs4 := hsz.2.2.2.2.2
 have hho_rules_seats_len := hho_rules_seats.len
 have hho_parties_len := hho_parties.len
 have hho_cabins_len := hho_cabins.len
 have hho_todo_len := hho_todo.len
 have hho_jobs_len := hho_jobs.len
 refine SEQ (REGION [0, 1] rfl (RUL 2 [] [(2, .p 0 0)] [(35, [.slice ho_rules_seats_a ho.rules.seats.length ho_rules_seats_c, vi ho.rules.tiers, vi ho.rules.room, vi ho.rules.size, vi ho.rules.period, vi ho.rules.window, vi ho.rules.rest, vi ho.rules.tries, vi ho.rules.crew, vi ho.now, vi ho.turn, .slice ho_parties_a ho.parties.length ho_parties_c, .slice ho_cabins_a ho.cabins.length ho_cabins_c, .slice ho_todo_a ho.todo.length ho_todo_c, .slice ho_jobs_a ho.jobs.length ho_jobs_c])] (by kernel_rfl) rfl (ENDOPS (NEXT (SEQ (REGION [0, 1] rfl (OPC (BUILDS 22 0 #[] 8 22 (by kernel_rfl) (NL rfl) 3 [] (by kernel_rfl) intL [] rfl (by simp only [maxLen]; omega) [] [] _ rfl (flatRep rfl) (fun a1 ha2 => (RU 1 [] [(5, .v (.slice a1 0 0))] (by kernel_rfl) rfl (ENDOPS (NEXT (SEQ (SEQ (REGION [0] rfl (RU 1 [] [(6, I 0)] (by kernel_rfl) rfl (ENDOPS (NEXT (BLOCK (LOOP (ι := Nat × (Option Addr) × Nat × (List Int)) (fun j => [(1, I cabin), (2, .p 0 0), (5, .v (.slice j.2.1 j.2.2.2.length j.2.2.1)), (6, I (j.1 : Int))]) (fun j => [(35, [.slice ho_rules_seats_a ho.rules.seats.length ho_rules_seats_c, vi ho.rules.tiers, vi ho.rules.room, vi ho.rules.size, vi ho.rules.period, vi ho.rules.window, vi ho.rules.rest, vi ho.rules.tries, vi ho.rules.crew, vi ho.now, vi ho.turn, .slice ho_parties_a ho.parties.length ho_parties_c, .slice ho_cabins_a ho.cabins.length ho_cabins_c, .slice ho_todo_a ho.todo.length ho_todo_c, .slice ho_jobs_a ho.jobs.length ho_jobs_c])]) (fun j => [slA 3 intL (.slice j.2.1 j.2.2.2.length j.2.2.1) j.2.2.2]) (fun j => j.1 ≤ ho.cabins.length ∧ j.2.2.2 = linkGo ho cabin j.1) (fun j => ho.cabins.length - j.1) (0, a1, 0, []) [1, 2, 5, 6] ⟨Nat.zero_le _, rfl⟩ (by kernel_rfl) rfl rfl ?_))))))))))))))))))))
 rintro ⟨f, oa, oc, out⟩ ⟨hf, hout⟩
 try dsimp only at hf hout
 have hol := linkGo_len ho cabin f; rw [← hout] at hol
 refine SEQ (SEQ (REGION [0, 1, 2, 3, 4] rfl (RU 5 [] [(13, B (decide ((f : Int) < (ho.cabins.length : Int))))] (by kernel_rfl) rfl (ENDOPS (NEXT (IF (decide ((f : Int) < (ho.cabins.length : Int))) (by kernel_rfl) (fun bh3 => ?_) (fun bh3 => ?_)))))))
 ·
  have h3 := bh3
  have h3 := of_decide_eq_true h3
  refine SKIP (NEXT (SEQ (BLOCK (SEQ (REGION [0] rfl (RU 1 [] [(7, I 0)] (by kernel_rfl) rfl (ENDOPS (NEXT (BLOCK (LOOP (ι := Nat × (List Party)) (fun j => [(1, I cabin), (2, .p 0 0), (5, .v (.slice oa out.length oc)), (6, I (f : Int)), (7, I (j.1 : Int))]) (fun j => [(35, [.slice ho_rules_seats_a ho.rules.seats.length ho_rules_seats_c, vi ho.rules.tiers, vi ho.rules.room, vi ho.rules.size, vi ho.rules.period, vi ho.rules.window, vi ho.rules.rest, vi ho.rules.tries, vi ho.rules.crew, vi ho.now, vi ho.turn, .slice ho_parties_a ho.parties.length ho_parties_c, .slice ho_cabins_a ho.cabins.length ho_cabins_c, .slice ho_todo_a ho.todo.length ho_todo_c, .slice ho_jobs_a ho.jobs.length ho_jobs_c])]) (fun j => [slA 3 intL (.slice oa out.length oc) out]) (fun j => j.1 + j.2.length = ho.parties.length ∧ ho.parties.drop j.1 = j.2 ∧ fromTo ho cabin f = j.2.any fun p => p.cabin == cabin && p.from' == (f : Int)) (fun j => j.2.length) (0, ho.parties) [1, 2, 5, 6, 7] ⟨by simp, rfl, rfl⟩ (by kernel_rfl) rfl rfl ?_))))))))))
  rintro ⟨k, ys⟩ ⟨hk, hd, hv0⟩
  try dsimp only at hk hd hv0
  refine SEQ (SEQ (REGION [0, 1, 2, 3, 4] rfl (RU 5 [] [(20, B (decide ((k : Int) < (ho.parties.length : Int))))] (by kernel_rfl) rfl (ENDOPS (NEXT (IF (decide ((k : Int) < (ho.parties.length : Int))) (by kernel_rfl) (fun bh4 => ?_) (fun bh4 => ?_)))))))
  ·
   have h4 := bh4
   have h4 := of_decide_eq_true h4
   obtain ⟨y5, ys6, rfl, hx_y5, hd_y5, hl_y5⟩ := drop_cons hd hk (by omega)
   refine SKIP (NEXT (SEQ (BLOCK (SEQ (REGION [0, 1, 2, 3, 4, 5, 6, 7, 8, 9, 10, 11, 12, 13, 14, 15, 16, 17] rfl (RU 3 [3, 4, 5, 6, 7, 8, 9, 10, 11, 12, 13, 14, 15, 16, 17] [(24, .v (.slice ho_parties_a ho.parties.length ho_parties_c)), (25, I (k : Int))] (by kernel_rfl) rfl (OPC (INDEX 32 (.tmp 24) (.tmp 25) 26 0 (by kernel_rfl) (NL rfl) ho_parties_a ho.parties.length ho_parties_c .i64 (k : Int) 54 10 (by kernel_rfl) (by kernel_rfl) (by kernel_rfl) (by kernel_rfl) (Rd.some hho_parties (by omega)) (by omega) (by omega) (RU 1 [5, 6, 7, 8, 9, 10, 11, 12, 13, 14, 15, 16, 17] [(27, .e ho_parties_a (k * 10) 1)] (by kernel_rfl) rfl (OPC (LOADE 3 (.tmp 27) 28 3 (by kernel_rfl) (NL rfl) ho_parties_a (k * 10) 1 (partyE y5) (vi y5.cabin) (by kernel_rfl) (fun w hw => (hho_parties.fr hw.fr).flat hx_y5) (by kernel_rfl) (RU 3 [9, 10, 11, 12, 13, 14, 15, 16, 17] [(31, B (y5.cabin == cabin))] (by kernel_rfl) rfl (SPLIT (d := 31) (y5.cabin == cabin) (by kernel_rfl) (fun bh7 => ?_) (fun bh7 => ?_))))))))))))))
   ·
    have h7 := bh7
    have h7 := eq_of_beq h7
    refine RU 3 [12, 13, 14, 15, 16, 17] [(33, .v (.slice ho_parties_a ho.parties.length ho_parties_c)), (34, I (k : Int))] (by kernel_rfl) rfl (OPC (INDEX 32 (.tmp 33) (.tmp 34) 35 0 (by kernel_rfl) (NL rfl) ho_parties_a ho.parties.length ho_parties_c .i64 (k : Int) 54 10 (by kernel_rfl) (by kernel_rfl) (by kernel_rfl) (by kernel_rfl) (Rd.some hho_parties (by omega)) (by omega) (by omega) (RU 1 [14, 15, 16, 17] [(36, .e ho_parties_a (k * 10) 2)] (by kernel_rfl) rfl (OPC (LOADE 3 (.tmp 36) 37 3 (by kernel_rfl) (NL rfl) ho_parties_a (k * 10) 2 (partyE y5) (vi y5.from') (by kernel_rfl) (fun w hw => (hho_parties.fr hw.fr).flat hx_y5) (by kernel_rfl) (RU 3 [] [(40, B (y5.from' == (f : Int)))] (by kernel_rfl) rfl (ENDOPS (NEXT (IF (y5.from' == (f : Int)) (by kernel_rfl) (fun bh8 => ?_) (fun bh8 => ?_))))))))))
    ·
     have h8 := bh8
     have h8 := eq_of_beq h8
     refine SEQ (REGION [0, 1, 2, 3, 4] rfl (RU 2 [2, 3, 4] [(41, .v (.slice oa out.length oc)), (42, I (f : Int))] (by kernel_rfl) rfl (OPC (BUILDS 22 1 #[(0, .tmp 42)] 43 22 (by kernel_rfl) (NL rfl) 3 [vi (f : Int)] (by kernel_rfl) intL [(f : Int)] rfl (by simp only [maxLen]; omega) [] [] _ rfl (flatRep rfl) (fun a9 ha10 => (OPC (APPENDO 22 (.tmp 41) (.tmp 43) 44 22 (by kernel_rfl) (NL rfl) (.slice oa out.length oc) a9 1 1 (by kernel_rfl) (by kernel_rfl) ha10 3 (by kernel_rfl) intL (vi 0) 8 (by kernel_rfl) rfl (by decide) 0 0 out ([(f : Int)]) _ rfl rfl (by first | omega | (simp only [List.length_append, List.length_cons, List.length_nil, List.length_take, List.length_drop] at *; omega)) (by simp only [maxLen]; first | omega | (simp only [List.length_append, List.length_cons, List.length_nil, List.length_take, List.length_drop] at *; omega)) (fun a11 c12 hn13 => (RU 1 [] [(5, .v (.slice a11 ((out ++ ([(f : Int)])).length) c12))] (by kernel_rfl) rfl (ENDOPS (NEXT (EXIT (OUTX (by decide) (PASS trivial (PASS trivial (OUT (OUTN (NEXT (REGION [0, 1, 2] rfl (RU 2 [2] [(15, I (wr ((f : Int) + 1)))] (by kernel_rfl) rfl (CAST (d := 15) (vi (wr ((f : Int) + 1))) (vi ((f + 1 : Nat) : Int)) (by kernel_rfl) (vi_cast (by omega) (by omega)) (RU 1 [] [(6, I ((f + 1 : Nat) : Int))] (by kernel_rfl) rfl (ENDOPS (BACK (f + 1, a11, c12, out ++ ([(f : Int)])) [1, 2, 5, 6] 1 [0] _ ⟨by dsimp only; omega, by simp_all [linkGo, fromTo]⟩ (by dsimp only; omega) (by kernel_rfl) rfl rfl rfl))))))))))))))))))))))))
    ·
     have h8 := bh8
     have h8 := ne_of_beq_false h8
     refine SKIP (OUTN (NEXT (REGION [0, 1, 2] rfl (RU 2 [2] [(22, I (wr ((k : Int) + 1)))] (by kernel_rfl) rfl (CAST (d := 22) (vi (wr ((k : Int) + 1))) (vi ((k + 1 : Nat) : Int)) (by kernel_rfl) (vi_cast (by omega) (by omega)) (RU 1 [] [(7, I ((k + 1 : Nat) : Int))] (by kernel_rfl) rfl (ENDOPS (BACK (k + 1, ys6) [1, 2, 5, 6, 7] 1 [0] _ ⟨hl_y5, hd_y5, (hv0.trans (by simp_all [List.any_cons]))⟩ (by simp) (by kernel_rfl) rfl rfl rfl))))))))
   ·
    have h7 := bh7
    have h7 := ne_of_beq_false h7
    refine RU 9 [] [(40, B false)] (by kernel_rfl) rfl (ENDOPS (NEXT (IFF (by kernel_rfl) (SKIP (OUTN (NEXT (REGION [0, 1, 2] rfl (RU 2 [2] [(22, I (wr ((k : Int) + 1)))] (by kernel_rfl) rfl (CAST (d := 22) (vi (wr ((k : Int) + 1))) (vi ((k + 1 : Nat) : Int)) (by kernel_rfl) (vi_cast (by omega) (by omega)) (RU 1 [] [(7, I ((k + 1 : Nat) : Int))] (by kernel_rfl) rfl (ENDOPS (BACK (k + 1, ys6) [1, 2, 5, 6, 7] 1 [0] _ ⟨hl_y5, hd_y5, (hv0.trans (by simp_all [List.any_cons]))⟩ (by simp) (by kernel_rfl) rfl rfl rfl))))))))))))
  ·
   have h4 := bh4
   have h4 := of_decide_eq_false h4
   obtain rfl := drop_nil hk (by omega)
   refine EXIT (PASS trivial (PASS trivial (OUT (OUTN (NEXT (REGION [0, 1, 2] rfl (RU 2 [2] [(15, I (wr ((f : Int) + 1)))] (by kernel_rfl) rfl (CAST (d := 15) (vi (wr ((f : Int) + 1))) (vi ((f + 1 : Nat) : Int)) (by kernel_rfl) (vi_cast (by omega) (by omega)) (RU 1 [] [(6, I ((f + 1 : Nat) : Int))] (by kernel_rfl) rfl (ENDOPS (BACK (f + 1, oa, oc, out) [1, 2, 5, 6] 1 [0] _ ⟨by dsimp only; omega, by simp_all [linkGo, fromTo]⟩ (by dsimp only; omega) (by kernel_rfl) rfl rfl rfl)))))))))))
 ·
  have h3 := bh3
  have h3 := of_decide_eq_false h3
  refine EXIT (PASS trivial (PASS trivial (OUT (NEXT (SEQ (REGION [0, 1] rfl (RU 2 [] [(4, .v (.slice oa out.length oc))] (by kernel_rfl) rfl (ENDOPS (NEXT (RET ?_))))))))))
  have efin : linkedOf ho cabin = out := by rw [hout, linkedOf]; congr 1; omega
  refine FIN (.slice oa out.length oc) (by kernel_rfl) (oa, oc) ?_ [0] ?_
  · (rw [efin] <;> rfl)
  · (rw [efin] <;> rfl)

theorem sLinked_c (W : World) (ho : House) (ho_rules_seats_a : Option Addr) (ho_rules_seats_c : Nat) (hho_rules_seats : Rd intL W ho_rules_seats_a ho.rules.seats) (ho_parties_a : Option Addr) (ho_parties_c : Nat) (hho_parties : Rd partyL W ho_parties_a ho.parties) (ho_cabins_a : Option Addr) (ho_cabins_c : Nat) (hho_cabins : Rd (cabinLx 114 116 127) W ho_cabins_a ho.cabins) (ho_todo_a : Option Addr) (ho_todo_c : Nat) (hho_todo : Rd intL W ho_todo_a ho.todo) (ho_jobs_a : Option Addr) (ho_jobs_c : Nat) (hho_jobs : Rd intL W ho_jobs_a ho.jobs) (cabin : Int) (hsz : HouseSz ho) (hcp : ho.parties.length ≤ ho_parties_c) (hct : ho.todo.length ≤ ho_todo_c) : Spec Tryz.prog W [] 8 #[.agg #[.slice ho_rules_seats_a ho.rules.seats.length ho_rules_seats_c, vi ho.rules.tiers, vi ho.rules.room, vi ho.rules.size, vi ho.rules.period, vi ho.rules.window, vi ho.rules.rest, vi ho.rules.tries, vi ho.rules.crew, vi ho.now, vi ho.turn, .slice ho_parties_a ho.parties.length ho_parties_c, .slice ho_cabins_a ho.cabins.length ho_cabins_c, .slice ho_todo_a ho.todo.length ho_todo_c, .slice ho_jobs_a ho.jobs.length ho_jobs_c], vi cabin] (⟨HH, fun p => .slice p.1 ((linked ho cabin).length) p.2, fun p => [slA 3 intL (.slice p.1 (linked ho cabin).length p.2) (linked ho cabin)]⟩) := by
 refine ENTER0 (N := 13) (vs := [.agg #[.slice ho_rules_seats_a ho.rules.seats.length ho_rules_seats_c, vi ho.rules.tiers, vi ho.rules.room, vi ho.rules.size, vi ho.rules.period, vi ho.rules.window, vi ho.rules.rest, vi ho.rules.tries, vi ho.rules.crew, vi ho.now, vi ho.turn, .slice ho_parties_a ho.parties.length ho_parties_c, .slice ho_cabins_a ho.cabins.length ho_cabins_c, .slice ho_todo_a ho.todo.length ho_todo_c, .slice ho_jobs_a ho.jobs.length ho_jobs_c], vi cabin]) Tryz.func8 rfl rfl (NL rfl) ?_
 have hho_rules_seats_len := hho_rules_seats.len
 have hho_parties_len := hho_parties.len
 have hho_cabins_len := hho_cabins.len
 have hho_todo_len := hho_todo.len
 have hho_jobs_len := hho_jobs.len
 refine SEQ (REGION [0, 1] rfl (RUL 2 [] [(2, .p 0 0)] [(35, [.slice ho_rules_seats_a ho.rules.seats.length ho_rules_seats_c, vi ho.rules.tiers, vi ho.rules.room, vi ho.rules.size, vi ho.rules.period, vi ho.rules.window, vi ho.rules.rest, vi ho.rules.tries, vi ho.rules.crew, vi ho.now, vi ho.turn, .slice ho_parties_a ho.parties.length ho_parties_c, .slice ho_cabins_a ho.cabins.length ho_cabins_c, .slice ho_todo_a ho.todo.length ho_todo_c, .slice ho_jobs_a ho.jobs.length ho_jobs_c])] (by kernel_rfl) rfl (ENDOPS (NEXT (SEQ (SEQ (REGION [0, 1, 2, 3] rfl (RU 2 [2, 3] [(5, .v (.agg #[.slice ho_rules_seats_a ho.rules.seats.length ho_rules_seats_c, vi ho.rules.tiers, vi ho.rules.room, vi ho.rules.size, vi ho.rules.period, vi ho.rules.window, vi ho.rules.rest, vi ho.rules.tries, vi ho.rules.crew, vi ho.now, vi ho.turn, .slice ho_parties_a ho.parties.length ho_parties_c, .slice ho_cabins_a ho.cabins.length ho_cabins_c, .slice ho_todo_a ho.todo.length ho_todo_c, .slice ho_jobs_a ho.jobs.length ho_jobs_c])), (6, I cabin)] (by kernel_rfl) rfl (OPC (CALL 26 #[.agg #[.slice ho_rules_seats_a ho.rules.seats.length ho_rules_seats_c, vi ho.rules.tiers, vi ho.rules.room, vi ho.rules.size, vi ho.rules.period, vi ho.rules.window, vi ho.rules.rest, vi ho.rules.tries, vi ho.rules.crew, vi ho.now, vi ho.turn, .slice ho_parties_a ho.parties.length ho_parties_c, .slice ho_cabins_a ho.cabins.length ho_cabins_c, .slice ho_todo_a ho.todo.length ho_todo_c, .slice ho_jobs_a ho.jobs.length ho_jobs_c], vi cabin] (some 7) (by kernel_rfl) [] [] _ rfl (RV (.bool (hasCab ho cabin))) (fun w hw => s15Ok_c w ho ho_rules_seats_a ho_rules_seats_c (hho_rules_seats.fr hw.fr) ho_parties_a ho_parties_c (hho_parties.fr hw.fr) ho_cabins_a ho_cabins_c (hho_cabins.fr hw.fr) ho_todo_a ho_todo_c (hho_todo.fr hw.fr) ho_jobs_a ho_jobs_c (hho_jobs.fr hw.fr) cabin (by assumption) (by first | assumption | omega | (dsimp only; omega) | (simp only [List.length_append, List.length_cons, List.length_nil] at *; omega)) (by first | assumption | omega | (dsimp only; omega) | (simp only [List.length_append, List.length_cons, List.length_nil] at *; omega))) (NO rfl) ?_))))))))))
 rintro ⟨⟩
 refine RU 1 [] [(8, B (!(hasCab ho cabin)))] (by kernel_rfl) rfl (ENDOPS (NEXT (IF (!(hasCab ho cabin)) (by kernel_rfl) (fun bh1 => ?_) (fun bh1 => ?_))))
 ·
  have h1 := bh1
  have h1 := notT h1
  refine SEQ (REGION [0, 1] rfl (OPC (BUILDS 22 0 #[] 9 22 (by kernel_rfl) (NL rfl) 3 [] (by kernel_rfl) intL [] rfl (by simp only [maxLen]; omega) [] [] _ rfl (flatRep rfl) (fun a2 ha3 => (RU 1 [] [(4, .v (.slice a2 0 0))] (by kernel_rfl) rfl (ENDOPS (NEXT (RET (PASS trivial ?_)))))))))
  have efin : linked ho cabin = [] := by (simp_all [linked])
  refine FIN (.slice a2 0 0) (by kernel_rfl) (a2, 0) ?_ [0] ?_
  · (rw [efin] <;> rfl)
  · (rw [efin] <;> rfl)
 ·
  have h1 := bh1
  have h1 := notF h1
  refine SKIP (NEXT (SEQ (REGION [0, 1, 2, 3] rfl (RU 2 [2, 3] [(10, .v (.agg #[.slice ho_rules_seats_a ho.rules.seats.length ho_rules_seats_c, vi ho.rules.tiers, vi ho.rules.room, vi ho.rules.size, vi ho.rules.period, vi ho.rules.window, vi ho.rules.rest, vi ho.rules.tries, vi ho.rules.crew, vi ho.now, vi ho.turn, .slice ho_parties_a ho.parties.length ho_parties_c, .slice ho_cabins_a ho.cabins.length ho_cabins_c, .slice ho_todo_a ho.todo.length ho_todo_c, .slice ho_jobs_a ho.jobs.length ho_jobs_c])), (11, I cabin)] (by kernel_rfl) rfl (OPC (CALL 27 #[.agg #[.slice ho_rules_seats_a ho.rules.seats.length ho_rules_seats_c, vi ho.rules.tiers, vi ho.rules.room, vi ho.rules.size, vi ho.rules.period, vi ho.rules.window, vi ho.rules.rest, vi ho.rules.tries, vi ho.rules.crew, vi ho.now, vi ho.turn, .slice ho_parties_a ho.parties.length ho_parties_c, .slice ho_cabins_a ho.cabins.length ho_cabins_c, .slice ho_todo_a ho.todo.length ho_todo_c, .slice ho_jobs_a ho.jobs.length ho_jobs_c], vi cabin] (some 12) (by kernel_rfl) [] [] _ rfl (⟨HH, fun p => .slice p.1 ((linkedOf ho cabin).length) p.2, fun p => [slA 3 intL (.slice p.1 (linkedOf ho cabin).length p.2) (linkedOf ho cabin)]⟩) (fun w hw => s27Linked_c w ho ho_rules_seats_a ho_rules_seats_c (hho_rules_seats.fr hw.fr) ho_parties_a ho_parties_c (hho_parties.fr hw.fr) ho_cabins_a ho_cabins_c (hho_cabins.fr hw.fr) ho_todo_a ho_todo_c (hho_todo.fr hw.fr) ho_jobs_a ho_jobs_c (hho_jobs.fr hw.fr) cabin (by assumption)) (NO rfl) ?_))))))
  rintro ⟨a4, c5⟩
  have hr6 := linkedOf_len ho cabin
  refine RU 1 [] [(4, .v (.slice a4 ((linkedOf ho cabin).length) c5))] (by kernel_rfl) rfl (ENDOPS (NEXT (RET ?_)))
  have efin : linked ho cabin = linkedOf ho cabin := by (simp_all [linked])
  refine FIN (.slice a4 ((linkedOf ho cabin).length) c5) (by kernel_rfl) (a4, c5) ?_ [0] ?_
  · (rw [efin] <;> rfl)
  · (rw [efin] <;> rfl)

end SX
end Go.Proofs.YtgbfemglimebdaaGreat
