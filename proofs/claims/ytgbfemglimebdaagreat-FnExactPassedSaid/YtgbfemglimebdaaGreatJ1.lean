/- Walks, printed by program. -/
import Derived.Test.YtgbfemglimebdaaGreatI1
namespace Go.Proofs.YtgbfemglimebdaaGreat
namespace SX
open Go Go.RowKit
set_option linter.unusedVariables false
set_option linter.unusedSimpArgs false
set_option maxRecDepth 10000
set_option maxHeartbeats 400000
theorem l1Max_c (W : World) (a : Int) (b : Int) : Spec Tryz.prog W [] 151 #[vi a, vi b] (RV (vi (if a > b then a else b))) := by
 refine ENTER0 (N := 10) (vs := [vi a, vi b]) Tryz.func151 rfl rfl (NL rfl) ?_
 refine SEQ (REGION [0] rfl (RU 1 [] [] (by kernel_rfl) rfl (ENDOPS (NEXT (SEQ (SEQ (REGION [0, 1, 2] rfl (RU 3 [] [(7, B (decide (a > b)))] (by kernel_rfl) rfl (ENDOPS (NEXT (IF (decide (a > b)) (by kernel_rfl) (fun bh1 => ?_) (fun bh1 => ?_))))))))))))
 ·
  have h1 := bh1
  have h1 := of_decide_eq_true h1
  refine SEQ (REGION [0, 1] rfl (RU 2 [] [(4, I a)] (by kernel_rfl) rfl (ENDOPS (NEXT (RET (PASS trivial (FIN (vi a) (by kernel_rfl) () ?_ [] ?_)))))))
  · simp [RV, *]
  · rfl
 ·
  have h1 := bh1
  have h1 := of_decide_eq_false h1
  refine SKIP (NEXT (SEQ (REGION [0, 1] rfl (RU 2 [] [(4, I b)] (by kernel_rfl) rfl (ENDOPS (NEXT (RET (FIN (vi b) (by kernel_rfl) () ?_ [] ?_))))))))
  · simp [RV, *]
  · rfl

theorem sRulesOk_c (W : World) (r : Rules) (r_seats_a : Option Addr) (r_seats_c : Nat) (hr_seats : Rd intL W r_seats_a r.seats) : Spec Tryz.prog W [] 71 #[.agg #[.slice r_seats_a r.seats.length r_seats_c, vi r.tiers, vi r.room, vi r.size, vi r.period, vi r.window, vi r.rest, vi r.tries, vi r.crew]] (RV (.bool (rulesOk r))) := by
 refine ENTER0 (N := 65) (vs := [.agg #[.slice r_seats_a r.seats.length r_seats_c, vi r.tiers, vi r.room, vi r.size, vi r.period, vi r.window, vi r.rest, vi r.tries, vi r.crew]]) Tryz.func71 rfl rfl (NL rfl) ?_
 have hr_seats_len := hr_seats.len
 refine SEQ (REGION [0, 1] rfl (RUL 2 [] [(1, .p 0 0)] [(31, [.slice r_seats_a r.seats.length r_seats_c, vi r.tiers, vi r.room, vi r.size, vi r.period, vi r.window, vi r.rest, vi r.tries, vi r.crew])] (by kernel_rfl) rfl (ENDOPS (NEXT (SEQ (SEQ (REGION [0, 1, 2, 3, 4, 5, 6, 7, 8, 9, 10, 11, 12, 13, 14, 15, 16, 17, 18, 19, 20, 21, 22, 23, 24, 25, 26, 27, 28] rfl (RU 3 [3, 4, 5, 6, 7, 8, 9, 10, 11, 12, 13, 14, 15, 16, 17, 18, 19, 20, 21, 22, 23, 24, 25, 26, 27, 28] [(6, I (r.seats.length : Int))] (by kernel_rfl) rfl (OPC (CALL 58 #[vi (r.seats.length : Int), vi 1, vi 4] (some 7) (by kernel_rfl) [] [] _ rfl (RV (.bool (inB (r.seats.length : Int) 1 4))) (fun w hw => l1In_c w (r.seats.length : Int) 1 4) (NO rfl) ?_))))))))))
 rintro ⟨⟩
 refine RU 2 [6, 7, 8, 9, 10, 11, 12, 13, 14, 15, 16, 17, 18, 19, 20, 21, 22, 23, 24, 25, 26, 27, 28] [(9, B (!(inB (r.seats.length : Int) 1 4)))] (by kernel_rfl) rfl (SPLIT (d := 9) (!(inB (r.seats.length : Int) 1 4)) (by kernel_rfl) (fun bh1 => ?_) (fun bh1 => ?_))
 ·
  have h1 := bh1
  have h1 := notT h1
  refine RU 23 [] [(32, B true)] (by kernel_rfl) rfl (ENDOPS (NEXT (IFT (by kernel_rfl) (SEQ (REGION [0] rfl (RU 1 [] [(2, B false)] (by kernel_rfl) rfl (ENDOPS (NEXT (RET (PASS trivial (FIN (.bool false) (by kernel_rfl) () ?_ [] ?_)))))))))))
  · simp [RV, rulesOk, allSeats, *]
  · rfl
 ·
  have h1 := bh1
  have h1 := notF h1
  refine RU 2 [8, 9, 10, 11, 12, 13, 14, 15, 16, 17, 18, 19, 20, 21, 22, 23, 24, 25, 26, 27, 28] [(11, I r.tiers)] (by kernel_rfl) rfl (OPC (CALL 58 #[vi r.tiers, vi 1, vi 5] (some 12) (by kernel_rfl) [] [] _ rfl (RV (.bool (inB r.tiers 1 5))) (fun w hw => l1In_c w r.tiers 1 5) (NO rfl) ?_))
  rintro ⟨⟩
  refine RU 3 [12, 13, 14, 15, 16, 17, 18, 19, 20, 21, 22, 23, 24, 25, 26, 27, 28] [(15, B (!(inB r.tiers 1 5)))] (by kernel_rfl) rfl (SPLIT (d := 15) (!(inB r.tiers 1 5)) (by kernel_rfl) (fun bh2 => ?_) (fun bh2 => ?_))
  ·
   have h2 := bh2
   have h2 := notT h2
   refine RU 17 [] [(32, B true)] (by kernel_rfl) rfl (ENDOPS (NEXT (IFT (by kernel_rfl) (SEQ (REGION [0] rfl (RU 1 [] [(2, B false)] (by kernel_rfl) rfl (ENDOPS (NEXT (RET (PASS trivial (FIN (.bool false) (by kernel_rfl) () ?_ [] ?_)))))))))))
   · simp [RV, rulesOk, allSeats, *]
   · rfl
  ·
   have h2 := bh2
   have h2 := notF h2
   refine RU 2 [14, 15, 16, 17, 18, 19, 20, 21, 22, 23, 24, 25, 26, 27, 28] [(17, I r.room)] (by kernel_rfl) rfl (OPC (CALL 58 #[vi r.room, vi 1, vi 10] (some 18) (by kernel_rfl) [] [] _ rfl (RV (.bool (inB r.room 1 10))) (fun w hw => l1In_c w r.room 1 10) (NO rfl) ?_))
   rintro ⟨⟩
   refine RU 3 [18, 19, 20, 21, 22, 23, 24, 25, 26, 27, 28] [(21, B (!(inB r.room 1 10)))] (by kernel_rfl) rfl (SPLIT (d := 21) (!(inB r.room 1 10)) (by kernel_rfl) (fun bh3 => ?_) (fun bh3 => ?_))
   ·
    have h3 := bh3
    have h3 := notT h3
    refine RU 11 [] [(32, B true)] (by kernel_rfl) rfl (ENDOPS (NEXT (IFT (by kernel_rfl) (SEQ (REGION [0] rfl (RU 1 [] [(2, B false)] (by kernel_rfl) rfl (ENDOPS (NEXT (RET (PASS trivial (FIN (.bool false) (by kernel_rfl) () ?_ [] ?_)))))))))))
    · simp [RV, rulesOk, allSeats, *]
    · rfl
   ·
    have h3 := bh3
    have h3 := notF h3
    refine RU 2 [20, 21, 22, 23, 24, 25, 26, 27, 28] [(23, I r.size)] (by kernel_rfl) rfl (OPC (CALL 58 #[vi r.size, vi 1, vi 6] (some 24) (by kernel_rfl) [] [] _ rfl (RV (.bool (inB r.size 1 6))) (fun w hw => l1In_c w r.size 1 6) (NO rfl) ?_))
    rintro ⟨⟩
    refine RU 3 [24, 25, 26, 27, 28] [(27, B (!(inB r.size 1 6)))] (by kernel_rfl) rfl (SPLIT (d := 27) (!(inB r.size 1 6)) (by kernel_rfl) (fun bh4 => ?_) (fun bh4 => ?_))
    ·
     have h4 := bh4
     have h4 := notT h4
     refine RU 5 [] [(32, B true)] (by kernel_rfl) rfl (ENDOPS (NEXT (IFT (by kernel_rfl) (SEQ (REGION [0] rfl (RU 1 [] [(2, B false)] (by kernel_rfl) rfl (ENDOPS (NEXT (RET (PASS trivial (FIN (.bool false) (by kernel_rfl) () ?_ [] ?_)))))))))))
     · simp [RV, rulesOk, allSeats, *]
     · rfl
    ·
     have h4 := bh4
     have h4 := notF h4
     refine RU 2 [26, 27, 28] [(29, I r.period)] (by kernel_rfl) rfl (OPC (CALL 58 #[vi r.period, vi 1, vi 12] (some 30) (by kernel_rfl) [] [] _ rfl (RV (.bool (inB r.period 1 12))) (fun w hw => l1In_c w r.period 1 12) (NO rfl) ?_))
     rintro ⟨⟩
     refine RU 2 [] [(32, B (!(inB r.period 1 12)))] (by kernel_rfl) rfl (ENDOPS (NEXT (IF (!(inB r.period 1 12)) (by kernel_rfl) (fun bh5 => ?_) (fun bh5 => ?_))))
     ·
      have h5 := bh5
      have h5 := notT h5
      refine SEQ (REGION [0] rfl (RU 1 [] [(2, B false)] (by kernel_rfl) rfl (ENDOPS (NEXT (RET (PASS trivial (FIN (.bool false) (by kernel_rfl) () ?_ [] ?_)))))))
      · simp [RV, rulesOk, allSeats, *]
      · rfl
     ·
      have h5 := bh5
      have h5 := notF h5
      refine SKIP (NEXT (SEQ (SEQ (REGION [0] rfl (RU 1 [] [(3, I 0)] (by kernel_rfl) rfl (ENDOPS (NEXT (BLOCK (LOOP (ι := Nat × (List Int)) (fun j => [(1, .p 0 0), (3, I (j.1 : Int))]) (fun j => [(31, [.slice r_seats_a r.seats.length r_seats_c, vi r.tiers, vi r.room, vi r.size, vi r.period, vi r.window, vi r.rest, vi r.tries, vi r.crew])]) (fun j => []) (fun j => j.1 + j.2.length = r.seats.length ∧ r.seats.drop j.1 = j.2 ∧ allSeats r.seats = allSeats j.2) (fun j => j.2.length) (0, r.seats) [1, 3] ⟨by simp, rfl, rfl⟩ (by kernel_rfl) rfl rfl ?_)))))))))
      rintro ⟨k, ys⟩ ⟨hk, hd, hv0⟩
      try dsimp only at hk hd hv0
      refine SEQ (SEQ (REGION [0, 1, 2, 3, 4] rfl (RU 5 [] [(37, B (decide ((k : Int) < (r.seats.length : Int))))] (by kernel_rfl) rfl (ENDOPS (NEXT (IF (decide ((k : Int) < (r.seats.length : Int))) (by kernel_rfl) (fun bh6 => ?_) (fun bh6 => ?_)))))))
      ·
       have h6 := bh6
       have h6 := of_decide_eq_true h6
       obtain ⟨y7, ys8, rfl, hx_y7, hd_y7, hl_y7⟩ := drop_cons hd hk (by omega)
       refine SKIP (NEXT (SEQ (BLOCK (SEQ (REGION [0, 1, 2, 3, 4, 5, 6] rfl (RU 3 [3, 4, 5, 6] [(41, .v (.slice r_seats_a r.seats.length r_seats_c)), (42, I (k : Int))] (by kernel_rfl) rfl (OPC (INDEX 22 (.tmp 41) (.tmp 42) 43 0 (by kernel_rfl) (NL rfl) r_seats_a r.seats.length r_seats_c .i64 (k : Int) 3 1 (by kernel_rfl) (by kernel_rfl) (by kernel_rfl) (by kernel_rfl) (Rd.some hr_seats (by omega)) (by omega) (by omega) (OPC (LOADE 3 (.tmp 43) 44 3 (by kernel_rfl) (NL rfl) r_seats_a (k * 1) 0 ([vi y7]) (vi y7) (by kernel_rfl) (fun w hw => (hr_seats.fr hw.fr).flat hx_y7) (by kernel_rfl) (OPC (CALL 58 #[vi y7, vi 1, vi 60] (some 45) (by kernel_rfl) [] [] _ rfl (RV (.bool (inB y7 1 60))) (fun w hw => l1In_c w y7 1 60) (NO rfl) ?_))))))))))))
       rintro ⟨⟩
       refine RU 1 [] [(46, B (!(inB y7 1 60)))] (by kernel_rfl) rfl (ENDOPS (NEXT (IF (!(inB y7 1 60)) (by kernel_rfl) (fun bh9 => ?_) (fun bh9 => ?_))))
       ·
        have h9 := bh9
        have h9 := notT h9
        refine SEQ (REGION [0] rfl (RU 1 [] [(2, B false)] (by kernel_rfl) rfl (ENDOPS (NEXT (RET (OUTR (PASS trivial (PASS trivial (OUTR (PASS trivial (FIN (.bool false) (by kernel_rfl) () ?_ [] ?_)))))))))))
        · simp [RV, rulesOk, allSeats, *]
        · rfl
       ·
        have h9 := bh9
        have h9 := notF h9
        refine SKIP (OUTN (NEXT (REGION [0, 1, 2] rfl (RU 2 [2] [(39, I (wr ((k : Int) + 1)))] (by kernel_rfl) rfl (CAST (d := 39) (vi (wr ((k : Int) + 1))) (vi ((k + 1 : Nat) : Int)) (by kernel_rfl) (vi_cast (by omega) (by omega)) (RU 1 [] [(3, I ((k + 1 : Nat) : Int))] (by kernel_rfl) rfl (ENDOPS (BACK (k + 1, ys8) [1, 3] 1 [] _ ⟨hl_y7, hd_y7, hv0.trans (by simp [allSeats, *])⟩ (by simp) (by kernel_rfl) rfl rfl rfl))))))))
      ·
       have h6 := bh6
       have h6 := of_decide_eq_false h6
       obtain rfl := drop_nil hk (by omega)
       refine EXIT (PASS trivial (PASS trivial (OUT (NEXT (SEQ (REGION [0, 1, 2, 3, 4, 5, 6, 7, 8, 9, 10, 11, 12, 13, 14, 15, 16, 17, 18] rfl (RU 2 [2, 3, 4, 5, 6, 7, 8, 9, 10, 11, 12, 13, 14, 15, 16, 17, 18] [(48, I r.window)] (by kernel_rfl) rfl (OPC (CALL 58 #[vi r.window, vi 1, vi 8] (some 49) (by kernel_rfl) [] [] _ rfl (RV (.bool (inB r.window 1 8))) (fun w hw => l1In_c w r.window 1 8) (NO rfl) ?_)))))))))
       rintro ⟨⟩
       refine RU 1 [4, 5, 6, 7, 8, 9, 10, 11, 12, 13, 14, 15, 16, 17, 18] [(50, B (inB r.window 1 8))] (by kernel_rfl) rfl (SPLIT (d := 50) (inB r.window 1 8) (by kernel_rfl) (fun bh10 => ?_) (fun bh10 => ?_))
       ·
        have h10 := bh10
        refine RU 2 [6, 7, 8, 9, 10, 11, 12, 13, 14, 15, 16, 17, 18] [(52, I r.rest)] (by kernel_rfl) rfl (OPC (CALL 58 #[vi r.rest, vi 0, vi 8] (some 53) (by kernel_rfl) [] [] _ rfl (RV (.bool (inB r.rest 0 8))) (fun w hw => l1In_c w r.rest 0 8) (NO rfl) ?_))
        rintro ⟨⟩
        refine RU 2 [9, 10, 11, 12, 13, 14, 15, 16, 17, 18] [(55, B (inB r.rest 0 8))] (by kernel_rfl) rfl (SPLIT (d := 55) (inB r.rest 0 8) (by kernel_rfl) (fun bh11 => ?_) (fun bh11 => ?_))
        ·
         have h11 := bh11
         refine RU 2 [11, 12, 13, 14, 15, 16, 17, 18] [(57, I r.tries)] (by kernel_rfl) rfl (OPC (CALL 58 #[vi r.tries, vi 1, vi 4] (some 58) (by kernel_rfl) [] [] _ rfl (RV (.bool (inB r.tries 1 4))) (fun w hw => l1In_c w r.tries 1 4) (NO rfl) ?_))
         rintro ⟨⟩
         refine RU 2 [14, 15, 16, 17, 18] [(60, B (inB r.tries 1 4))] (by kernel_rfl) rfl (SPLIT (d := 60) (inB r.tries 1 4) (by kernel_rfl) (fun bh12 => ?_) (fun bh12 => ?_))
         ·
          have h12 := bh12
          refine RU 2 [16, 17, 18] [(62, I r.crew)] (by kernel_rfl) rfl (OPC (CALL 58 #[vi r.crew, vi 1, vi 3] (some 63) (by kernel_rfl) [] [] _ rfl (RV (.bool (inB r.crew 1 3))) (fun w hw => l1In_c w r.crew 1 3) (NO rfl) ?_))
          rintro ⟨⟩
          refine RU 2 [] [(2, B (inB r.crew 1 3))] (by kernel_rfl) rfl (ENDOPS (NEXT (RET (FIN (.bool (inB r.crew 1 3)) (by kernel_rfl) () ?_ [] ?_))))
          · simp [RV, rulesOk, allSeats, *]
          · rfl
         ·
          have h12 := bh12
          refine RU 5 [] [(2, B false)] (by kernel_rfl) rfl (ENDOPS (NEXT (RET (FIN (.bool false) (by kernel_rfl) () ?_ [] ?_))))
          · simp [RV, rulesOk, allSeats, *]
          · rfl
        ·
         have h11 := bh11
         refine RU 10 [] [(2, B false)] (by kernel_rfl) rfl (ENDOPS (NEXT (RET (FIN (.bool false) (by kernel_rfl) () ?_ [] ?_))))
         · simp [RV, rulesOk, allSeats, *]
         · rfl
       ·
        have h10 := bh10
        refine RU 15 [] [(2, B false)] (by kernel_rfl) rfl (ENDOPS (NEXT (RET (FIN (.bool false) (by kernel_rfl) () ?_ [] ?_))))
        · simp [RV, rulesOk, allSeats, *]
        · rfl

theorem sPartyOk_c (W : World) (r : Rules) (r_seats_a : Option Addr) (r_seats_c : Nat) (hr_seats : Rd intL W r_seats_a r.seats) (pa : Party) (now : Int) : Spec Tryz.prog W [] 99 #[.agg #[.slice r_seats_a r.seats.length r_seats_c, vi r.tiers, vi r.room, vi r.size, vi r.period, vi r.window, vi r.rest, vi r.tries, vi r.crew], .agg #[vi pa.id, vi pa.cabin, vi pa.from', vi pa.size, vi pa.tier, vi pa.since, vi pa.turn, vi pa.state, vi pa.until', vi pa.asked], vi now] (RV (.bool (partyOk r pa now))) := by
 refine ENTER0 (N := 111) (vs := [.agg #[.slice r_seats_a r.seats.length r_seats_c, vi r.tiers, vi r.room, vi r.size, vi r.period, vi r.window, vi r.rest, vi r.tries, vi r.crew], .agg #[vi pa.id, vi pa.cabin, vi pa.from', vi pa.size, vi pa.tier, vi pa.since, vi pa.turn, vi pa.state, vi pa.until', vi pa.asked], vi now]) Tryz.func99 rfl rfl (NL rfl) ?_
 have hr_seats_len := hr_seats.len
 refine SEQ (REGION [0, 1, 2] rfl (RUL 3 [] [(3, .p 0 0), (4, .p 1 0)] [(31, [.slice r_seats_a r.seats.length r_seats_c, vi r.tiers, vi r.room, vi r.size, vi r.period, vi r.window, vi r.rest, vi r.tries, vi r.crew]), (54, partyE pa)] (by kernel_rfl) rfl (ENDOPS (NEXT (SEQ (SEQ (REGION [0, 1, 2, 3, 4, 5, 6, 7, 8, 9, 10, 11, 12, 13, 14, 15, 16, 17, 18, 19, 20, 21, 22, 23, 24, 25, 26, 27, 28, 29, 30, 31, 32, 33, 34, 35, 36, 37, 38, 39, 40] rfl (RU 1 [1, 2, 3, 4, 5, 6, 7, 8, 9, 10, 11, 12, 13, 14, 15, 16, 17, 18, 19, 20, 21, 22, 23, 24, 25, 26, 27, 28, 29, 30, 31, 32, 33, 34, 35, 36, 37, 38, 39, 40] [(7, .v (.agg #[.slice r_seats_a r.seats.length r_seats_c, vi r.tiers, vi r.room, vi r.size, vi r.period, vi r.window, vi r.rest, vi r.tries, vi r.crew]))] (by kernel_rfl) rfl (OPC (CALL 71 #[.agg #[.slice r_seats_a r.seats.length r_seats_c, vi r.tiers, vi r.room, vi r.size, vi r.period, vi r.window, vi r.rest, vi r.tries, vi r.crew]] (some 8) (by kernel_rfl) [] [] _ rfl (RV (.bool (rulesOk r))) (fun w hw => sRulesOk_c w r r_seats_a r_seats_c (hr_seats.fr hw.fr)) (NO rfl) ?_))))))))))
 rintro ⟨⟩
 refine RU 2 [4, 5, 6, 7, 8, 9, 10, 11, 12, 13, 14, 15, 16, 17, 18, 19, 20, 21, 22, 23, 24, 25, 26, 27, 28, 29, 30, 31, 32, 33, 34, 35, 36, 37, 38, 39, 40] [(10, B (!(rulesOk r)))] (by kernel_rfl) rfl (SPLIT (d := 10) (!(rulesOk r)) (by kernel_rfl) (fun bh1 => ?_) (fun bh1 => ?_))
 ·
  have h1 := bh1
  have h1 := notT h1
  refine RU 37 [] [(47, B true)] (by kernel_rfl) rfl (ENDOPS (NEXT (IFT (by kernel_rfl) (SEQ (REGION [0] rfl (RU 1 [] [(6, B false)] (by kernel_rfl) rfl (ENDOPS (NEXT (RET (PASS trivial (FIN (.bool false) (by kernel_rfl) () ?_ [] ?_)))))))))))
  · simp_all [RV, partyOk]
  · rfl
 ·
  have h1 := bh1
  have h1 := notF h1
  refine RU 1 [5, 6, 7, 8, 9, 10, 11, 12, 13, 14, 15, 16, 17, 18, 19, 20, 21, 22, 23, 24, 25, 26, 27, 28, 29, 30, 31, 32, 33, 34, 35, 36, 37, 38, 39, 40] [(11, I now)] (by kernel_rfl) rfl (OPC (CALL 58 #[vi now, vi 0, vi 1000000] (some 12) (by kernel_rfl) [] [] _ rfl (RV (.bool (inB now 0 1000000))) (fun w hw => l1In_c w now 0 1000000) (NO rfl) ?_))
  rintro ⟨⟩
  refine RU 3 [9, 10, 11, 12, 13, 14, 15, 16, 17, 18, 19, 20, 21, 22, 23, 24, 25, 26, 27, 28, 29, 30, 31, 32, 33, 34, 35, 36, 37, 38, 39, 40] [(15, B (!(inB now 0 1000000)))] (by kernel_rfl) rfl (SPLIT (d := 15) (!(inB now 0 1000000)) (by kernel_rfl) (fun bh2 => ?_) (fun bh2 => ?_))
  ·
   have h2 := bh2
   have h2 := notT h2
   refine RU 32 [] [(47, B true)] (by kernel_rfl) rfl (ENDOPS (NEXT (IFT (by kernel_rfl) (SEQ (REGION [0] rfl (RU 1 [] [(6, B false)] (by kernel_rfl) rfl (ENDOPS (NEXT (RET (PASS trivial (FIN (.bool false) (by kernel_rfl) () ?_ [] ?_)))))))))))
   · simp_all [RV, partyOk]
   · rfl
  ·
   have h2 := bh2
   have h2 := notF h2
   refine RU 2 [11, 12, 13, 14, 15, 16, 17, 18, 19, 20, 21, 22, 23, 24, 25, 26, 27, 28, 29, 30, 31, 32, 33, 34, 35, 36, 37, 38, 39, 40] [(17, I pa.id)] (by kernel_rfl) rfl (OPC (CALL 58 #[vi pa.id, vi 1, vi 999] (some 18) (by kernel_rfl) [] [] _ rfl (RV (.bool (inB pa.id 1 999))) (fun w hw => l1In_c w pa.id 1 999) (NO rfl) ?_))
   rintro ⟨⟩
   refine RU 3 [15, 16, 17, 18, 19, 20, 21, 22, 23, 24, 25, 26, 27, 28, 29, 30, 31, 32, 33, 34, 35, 36, 37, 38, 39, 40] [(21, B (!(inB pa.id 1 999)))] (by kernel_rfl) rfl (SPLIT (d := 21) (!(inB pa.id 1 999)) (by kernel_rfl) (fun bh3 => ?_) (fun bh3 => ?_))
   ·
    have h3 := bh3
    have h3 := notT h3
    refine RU 26 [] [(47, B true)] (by kernel_rfl) rfl (ENDOPS (NEXT (IFT (by kernel_rfl) (SEQ (REGION [0] rfl (RU 1 [] [(6, B false)] (by kernel_rfl) rfl (ENDOPS (NEXT (RET (PASS trivial (FIN (.bool false) (by kernel_rfl) () ?_ [] ?_)))))))))))
    · simp_all [RV, partyOk]
    · rfl
   ·
    have h3 := bh3
    have h3 := notF h3
    refine RU 6 [21, 22, 23, 24, 25, 26, 27, 28, 29, 30, 31, 32, 33, 34, 35, 36, 37, 38, 39, 40] [(23, I pa.cabin), (27, I (wr ((r.seats.length : Int) - 1)))] (by kernel_rfl) rfl (OPC (CALL 58 #[vi pa.cabin, vi 0, vi (wr ((r.seats.length : Int) - 1))] (some 28) (by kernel_rfl) [] [] _ rfl (RV (.bool (inB pa.cabin 0 (wr ((r.seats.length : Int) - 1))))) (fun w hw => l1In_c w pa.cabin 0 (wr ((r.seats.length : Int) - 1))) (NO rfl) ?_))
    rintro ⟨⟩
    refine RU 3 [25, 26, 27, 28, 29, 30, 31, 32, 33, 34, 35, 36, 37, 38, 39, 40] [(31, B (!(inB pa.cabin 0 (wr ((r.seats.length : Int) - 1)))))] (by kernel_rfl) rfl (SPLIT (d := 31) (!(inB pa.cabin 0 (wr ((r.seats.length : Int) - 1)))) (by kernel_rfl) (fun bh4 => ?_) (fun bh4 => ?_))
    ·
     have h4 := bh4
     have h4 := notT h4
     refine RU 16 [] [(47, B true)] (by kernel_rfl) rfl (ENDOPS (NEXT (IFT (by kernel_rfl) (SEQ (REGION [0] rfl (RU 1 [] [(6, B false)] (by kernel_rfl) rfl (ENDOPS (NEXT (RET (PASS trivial (FIN (.bool false) (by kernel_rfl) () ?_ [] ?_)))))))))))
     · simp_all [RV, partyOk]
     · rfl
    ·
     have h4 := bh4
     have h4 := notF h4
     refine RU 6 [31, 32, 33, 34, 35, 36, 37, 38, 39, 40] [(33, I pa.from'), (37, I (wr ((r.seats.length : Int) - 1)))] (by kernel_rfl) rfl (OPC (CALL 58 #[vi pa.from', vi (-1), vi (wr ((r.seats.length : Int) - 1))] (some 38) (by kernel_rfl) [] [] _ rfl (RV (.bool (inB pa.from' (-1) (wr ((r.seats.length : Int) - 1))))) (fun w hw => l1In_c w pa.from' (-1) (wr ((r.seats.length : Int) - 1))) (NO rfl) ?_))
     rintro ⟨⟩
     refine RU 3 [35, 36, 37, 38, 39, 40] [(41, B (!(inB pa.from' (-1) (wr ((r.seats.length : Int) - 1)))))] (by kernel_rfl) rfl (SPLIT (d := 41) (!(inB pa.from' (-1) (wr ((r.seats.length : Int) - 1)))) (by kernel_rfl) (fun bh5 => ?_) (fun bh5 => ?_))
     ·
      have h5 := bh5
      have h5 := notT h5
      refine RU 6 [] [(47, B true)] (by kernel_rfl) rfl (ENDOPS (NEXT (IFT (by kernel_rfl) (SEQ (REGION [0] rfl (RU 1 [] [(6, B false)] (by kernel_rfl) rfl (ENDOPS (NEXT (RET (PASS trivial (FIN (.bool false) (by kernel_rfl) () ?_ [] ?_)))))))))))
      · simp_all [RV, partyOk]
      · rfl
     ·
      have h5 := bh5
      have h5 := notF h5
      refine RU 6 [] [(47, B (pa.from' == pa.cabin))] (by kernel_rfl) rfl (ENDOPS (NEXT (IF (pa.from' == pa.cabin) (by kernel_rfl) (fun bh6 => ?_) (fun bh6 => ?_))))
      ·
       have h6 := bh6
       have h6 := eq_of_beq h6
       refine SEQ (REGION [0] rfl (RU 1 [] [(6, B false)] (by kernel_rfl) rfl (ENDOPS (NEXT (RET (PASS trivial (FIN (.bool false) (by kernel_rfl) () ?_ [] ?_)))))))
       · simp_all [RV, partyOk]
       · rfl
      ·
       have h6 := bh6
       have h6 := ne_of_beq_false h6
       refine SKIP (NEXT (SEQ (SEQ (REGION [0, 1, 2, 3, 4, 5, 6, 7, 8, 9, 10, 11, 12, 13, 14, 15, 16, 17, 18, 19, 20, 21, 22, 23, 24, 25, 26, 27, 28, 29, 30, 31, 32, 33, 34, 35, 36] rfl (RU 4 [4, 5, 6, 7, 8, 9, 10, 11, 12, 13, 14, 15, 16, 17, 18, 19, 20, 21, 22, 23, 24, 25, 26, 27, 28, 29, 30, 31, 32, 33, 34, 35, 36] [(49, I pa.size), (51, I r.size)] (by kernel_rfl) rfl (OPC (CALL 58 #[vi pa.size, vi 1, vi r.size] (some 52) (by kernel_rfl) [] [] _ rfl (RV (.bool (inB pa.size 1 r.size))) (fun w hw => l1In_c w pa.size 1 r.size) (NO rfl) ?_)))))))
       rintro ⟨⟩
       refine RU 2 [7, 8, 9, 10, 11, 12, 13, 14, 15, 16, 17, 18, 19, 20, 21, 22, 23, 24, 25, 26, 27, 28, 29, 30, 31, 32, 33, 34, 35, 36] [(54, B (!(inB pa.size 1 r.size)))] (by kernel_rfl) rfl (SPLIT (d := 54) (!(inB pa.size 1 r.size)) (by kernel_rfl) (fun bh7 => ?_) (fun bh7 => ?_))
       ·
        have h7 := bh7
        have h7 := notT h7
        refine RU 30 [] [(84, B true)] (by kernel_rfl) rfl (ENDOPS (NEXT (IFT (by kernel_rfl) (SEQ (REGION [0] rfl (RU 1 [] [(6, B false)] (by kernel_rfl) rfl (ENDOPS (NEXT (RET (PASS trivial (FIN (.bool false) (by kernel_rfl) () ?_ [] ?_)))))))))))
        · simp_all [RV, partyOk]
        · rfl
       ·
        have h7 := bh7
        have h7 := notF h7
        refine RU 5 [12, 13, 14, 15, 16, 17, 18, 19, 20, 21, 22, 23, 24, 25, 26, 27, 28, 29, 30, 31, 32, 33, 34, 35, 36] [(56, I pa.tier), (59, I (wr (r.tiers - 1)))] (by kernel_rfl) rfl (OPC (CALL 58 #[vi pa.tier, vi 0, vi (wr (r.tiers - 1))] (some 60) (by kernel_rfl) [] [] _ rfl (RV (.bool (inB pa.tier 0 (wr (r.tiers - 1))))) (fun w hw => l1In_c w pa.tier 0 (wr (r.tiers - 1))) (NO rfl) ?_))
        rintro ⟨⟩
        refine RU 3 [16, 17, 18, 19, 20, 21, 22, 23, 24, 25, 26, 27, 28, 29, 30, 31, 32, 33, 34, 35, 36] [(63, B (!(inB pa.tier 0 (wr (r.tiers - 1)))))] (by kernel_rfl) rfl (SPLIT (d := 63) (!(inB pa.tier 0 (wr (r.tiers - 1)))) (by kernel_rfl) (fun bh8 => ?_) (fun bh8 => ?_))
        ·
         have h8 := bh8
         have h8 := notT h8
         refine RU 21 [] [(84, B true)] (by kernel_rfl) rfl (ENDOPS (NEXT (IFT (by kernel_rfl) (SEQ (REGION [0] rfl (RU 1 [] [(6, B false)] (by kernel_rfl) rfl (ENDOPS (NEXT (RET (PASS trivial (FIN (.bool false) (by kernel_rfl) () ?_ [] ?_)))))))))))
         · simp_all [RV, partyOk]
         · rfl
        ·
         have h8 := bh8
         have h8 := notF h8
         refine RU 3 [19, 20, 21, 22, 23, 24, 25, 26, 27, 28, 29, 30, 31, 32, 33, 34, 35, 36] [(65, I pa.since), (66, I now)] (by kernel_rfl) rfl (OPC (CALL 58 #[vi pa.since, vi 0, vi now] (some 67) (by kernel_rfl) [] [] _ rfl (RV (.bool (inB pa.since 0 now))) (fun w hw => l1In_c w pa.since 0 now) (NO rfl) ?_))
         rintro ⟨⟩
         refine RU 3 [23, 24, 25, 26, 27, 28, 29, 30, 31, 32, 33, 34, 35, 36] [(70, B (!(inB pa.since 0 now)))] (by kernel_rfl) rfl (SPLIT (d := 70) (!(inB pa.since 0 now)) (by kernel_rfl) (fun bh9 => ?_) (fun bh9 => ?_))
         ·
          have h9 := bh9
          have h9 := notT h9
          refine RU 14 [] [(84, B true)] (by kernel_rfl) rfl (ENDOPS (NEXT (IFT (by kernel_rfl) (SEQ (REGION [0] rfl (RU 1 [] [(6, B false)] (by kernel_rfl) rfl (ENDOPS (NEXT (RET (PASS trivial (FIN (.bool false) (by kernel_rfl) () ?_ [] ?_)))))))))))
          · simp_all [RV, partyOk]
          · rfl
         ·
          have h9 := bh9
          have h9 := notF h9
          refine RU 2 [25, 26, 27, 28, 29, 30, 31, 32, 33, 34, 35, 36] [(72, I pa.turn)] (by kernel_rfl) rfl (OPC (CALL 58 #[vi pa.turn, vi 1, vi 1000000] (some 73) (by kernel_rfl) [] [] _ rfl (RV (.bool (inB pa.turn 1 1000000))) (fun w hw => l1In_c w pa.turn 1 1000000) (NO rfl) ?_))
          rintro ⟨⟩
          refine RU 3 [29, 30, 31, 32, 33, 34, 35, 36] [(76, B (!(inB pa.turn 1 1000000)))] (by kernel_rfl) rfl (SPLIT (d := 76) (!(inB pa.turn 1 1000000)) (by kernel_rfl) (fun bh10 => ?_) (fun bh10 => ?_))
          ·
           have h10 := bh10
           have h10 := notT h10
           refine RU 8 [] [(84, B true)] (by kernel_rfl) rfl (ENDOPS (NEXT (IFT (by kernel_rfl) (SEQ (REGION [0] rfl (RU 1 [] [(6, B false)] (by kernel_rfl) rfl (ENDOPS (NEXT (RET (PASS trivial (FIN (.bool false) (by kernel_rfl) () ?_ [] ?_)))))))))))
           · simp_all [RV, partyOk]
           · rfl
          ·
           have h10 := bh10
           have h10 := notF h10
           refine RU 5 [34, 35, 36] [(78, I pa.asked), (81, I (wr (r.tries - 1)))] (by kernel_rfl) rfl (OPC (CALL 58 #[vi pa.asked, vi 0, vi (wr (r.tries - 1))] (some 82) (by kernel_rfl) [] [] _ rfl (RV (.bool (inB pa.asked 0 (wr (r.tries - 1))))) (fun w hw => l1In_c w pa.asked 0 (wr (r.tries - 1))) (NO rfl) ?_))
           rintro ⟨⟩
           refine RU 2 [] [(84, B (!(inB pa.asked 0 (wr (r.tries - 1)))))] (by kernel_rfl) rfl (ENDOPS (NEXT (IF (!(inB pa.asked 0 (wr (r.tries - 1)))) (by kernel_rfl) (fun bh11 => ?_) (fun bh11 => ?_))))
           ·
            have h11 := bh11
            have h11 := notT h11
            refine SEQ (REGION [0] rfl (RU 1 [] [(6, B false)] (by kernel_rfl) rfl (ENDOPS (NEXT (RET (PASS trivial (FIN (.bool false) (by kernel_rfl) () ?_ [] ?_)))))))
            · simp_all [RV, partyOk]
            · rfl
           ·
            have h11 := bh11
            have h11 := notF h11
            refine SKIP (NEXT (SEQ (REGION [0, 1, 2, 3, 4, 5, 6, 7, 8, 9, 10, 11, 12, 13, 14, 15, 16, 17, 18, 19, 20, 21, 22, 23, 24, 25, 26] rfl (RU 4 [4, 5, 6, 7, 8, 9, 10, 11, 12, 13, 14, 15, 16, 17, 18, 19, 20, 21, 22, 23, 24, 25, 26] [(88, B (pa.state == 1))] (by kernel_rfl) rfl (SPLIT (d := 88) (pa.state == 1) (by kernel_rfl) (fun bh12 => ?_) (fun bh12 => ?_))))))
            ·
             have h12 := bh12
             have h12 := eq_of_beq h12
             refine RU 6 [10, 11, 12, 13, 14, 15, 16, 17, 18, 19, 20, 21, 22, 23, 24, 25, 26] [(90, I pa.until'), (94, I (wr (now + r.rest)))] (by kernel_rfl) rfl (OPC (CALL 58 #[vi pa.until', vi 0, vi (wr (now + r.rest))] (some 95) (by kernel_rfl) [] [] _ rfl (RV (.bool (inB pa.until' 0 (wr (now + r.rest))))) (fun w hw => l1In_c w pa.until' 0 (wr (now + r.rest))) (NO rfl) ?_))
             rintro ⟨⟩
             refine RU 2 [13, 14, 15, 16, 17, 18, 19, 20, 21, 22, 23, 24, 25, 26] [(97, B (inB pa.until' 0 (wr (now + r.rest))))] (by kernel_rfl) rfl (SPLIT (d := 97) (inB pa.until' 0 (wr (now + r.rest))) (by kernel_rfl) (fun bh13 => ?_) (fun bh13 => ?_))
             ·
              have h13 := bh13
              refine RU 14 [] [(6, B true)] (by kernel_rfl) rfl (ENDOPS (NEXT (RET (FIN (.bool true) (by kernel_rfl) () ?_ [] ?_))))
              · simp_all [RV, partyOk]
              · rfl
             ·
              have h13 := bh13
              refine RU 4 [17, 18, 19, 20, 21, 22, 23, 24, 25, 26] [(101, B (pa.state == 2))] (by kernel_rfl) rfl (SPLIT (d := 101) (pa.state == 2) (by kernel_rfl) (fun bh14 => ?_) (fun bh14 => ?_))
              · have bh14 := eq_of_beq bh14; exfalso; omega
              ·
               have h14 := bh14
               have h14 := ne_of_beq_false h14
               refine RU 10 [] [(6, B false)] (by kernel_rfl) rfl (ENDOPS (NEXT (RET (FIN (.bool false) (by kernel_rfl) () ?_ [] ?_))))
               · simp_all [RV, partyOk]
               · rfl
            ·
             have h12 := bh12
             have h12 := ne_of_beq_false h12
             refine RU 13 [17, 18, 19, 20, 21, 22, 23, 24, 25, 26] [(97, B false), (101, B (pa.state == 2))] (by kernel_rfl) rfl (SPLIT (d := 101) (pa.state == 2) (by kernel_rfl) (fun bh15 => ?_) (fun bh15 => ?_))
             ·
              have h15 := bh15
              have h15 := eq_of_beq h15
              refine RU 6 [23, 24, 25, 26] [(103, I pa.until'), (107, I (wr (now + r.window)))] (by kernel_rfl) rfl (OPC (CALL 58 #[vi pa.until', vi 1, vi (wr (now + r.window))] (some 108) (by kernel_rfl) [] [] _ rfl (RV (.bool (inB pa.until' 1 (wr (now + r.window))))) (fun w hw => l1In_c w pa.until' 1 (wr (now + r.window))) (NO rfl) ?_))
              rintro ⟨⟩
              refine RU 3 [] [(6, B (inB pa.until' 1 (wr (now + r.window))))] (by kernel_rfl) rfl (ENDOPS (NEXT (RET (FIN (.bool (inB pa.until' 1 (wr (now + r.window)))) (by kernel_rfl) () ?_ [] ?_))))
              · simp_all [RV, partyOk]
              · rfl
             ·
              have h15 := bh15
              have h15 := ne_of_beq_false h15
              refine RU 10 [] [(6, B false)] (by kernel_rfl) rfl (ENDOPS (NEXT (RET (FIN (.bool false) (by kernel_rfl) () ?_ [] ?_))))
              · simp_all [RV, partyOk]
              · rfl

theorem l5Level_c (W : World) (r : Rules) (r_seats_a : Option Addr) (r_seats_c : Nat) (hr_seats : Rd intL W r_seats_a r.seats) (tier : Int) (waited : Int) (hper : 1 ≤ r.period) : Spec Tryz.prog W [] 100 #[.agg #[.slice r_seats_a r.seats.length r_seats_c, vi r.tiers, vi r.room, vi r.size, vi r.period, vi r.window, vi r.rest, vi r.tries, vi r.crew], vi tier, vi waited] (RV (vi (levelAt r tier waited))) := by
 refine ENTER0 (N := 14) (vs := [.agg #[.slice r_seats_a r.seats.length r_seats_c, vi r.tiers, vi r.room, vi r.size, vi r.period, vi r.window, vi r.rest, vi r.tries, vi r.crew], vi tier, vi waited]) Tryz.func100 rfl rfl (NL rfl) ?_
 have hr_seats_len := hr_seats.len
 refine SEQ (REGION [0, 1] rfl (RUL 2 [] [(3, .p 0 0)] [(31, [.slice r_seats_a r.seats.length r_seats_c, vi r.tiers, vi r.room, vi r.size, vi r.period, vi r.window, vi r.rest, vi r.tries, vi r.crew])] (by kernel_rfl) rfl (ENDOPS (NEXT (SEQ (REGION [0, 1, 2, 3, 4, 5, 6, 7] rfl (RU 4 [4, 5, 6, 7] [(7, I tier), (8, I waited), (10, I r.period)] (by kernel_rfl) rfl (OPC (RUNV (.binOp .quo 3 (.tmp 8) (.tmp 10) 3) 11 3 (by kernel_rfl) (NL rfl) (vi (wr (Int.tdiv waited r.period))) (runs_quo (a := waited) (b := r.period) (by kernel_rfl) (by kernel_rfl) (by omega)) (RU 1 [6, 7] [(12, I (wr (tier - (wr (Int.tdiv waited r.period)))))] (by kernel_rfl) rfl (OPC (CALL 151 #[vi 0, vi (wr (tier - (wr (Int.tdiv waited r.period))))] (some 13) (by kernel_rfl) [] [] _ rfl (RV (vi (if 0 > (wr (tier - (wr (Int.tdiv waited r.period)))) then 0 else (wr (tier - (wr (Int.tdiv waited r.period))))))) (fun w hw => l1Max_c w 0 (wr (tier - (wr (Int.tdiv waited r.period))))) (NO rfl) ?_))))))))))))
 rintro ⟨⟩
 refine RU 1 [] [(6, I (if 0 > (wr (tier - (wr (Int.tdiv waited r.period)))) then 0 else (wr (tier - (wr (Int.tdiv waited r.period))))))] (by kernel_rfl) rfl (ENDOPS (NEXT (RET (FIN (vi (if 0 > (wr (tier - (wr (Int.tdiv waited r.period)))) then 0 else (wr (tier - (wr (Int.tdiv waited r.period)))))) (by kernel_rfl) () ?_ [] ?_))))
 · simp [RV, levelAt]
 · rfl

theorem sLevelOf_c (W : World) (r : Rules) (r_seats_a : Option Addr) (r_seats_c : Nat) (hr_seats : Rd intL W r_seats_a r.seats) (pa : Party) (now : Int) : Spec Tryz.prog W [] 68 #[.agg #[.slice r_seats_a r.seats.length r_seats_c, vi r.tiers, vi r.room, vi r.size, vi r.period, vi r.window, vi r.rest, vi r.tries, vi r.crew], .agg #[vi pa.id, vi pa.cabin, vi pa.from', vi pa.size, vi pa.tier, vi pa.since, vi pa.turn, vi pa.state, vi pa.until', vi pa.asked], vi now] (RV (vi (levelOf r pa now))) := by
 refine ENTER0 (N := 20) (vs := [.agg #[.slice r_seats_a r.seats.length r_seats_c, vi r.tiers, vi r.room, vi r.size, vi r.period, vi r.window, vi r.rest, vi r.tries, vi r.crew], .agg #[vi pa.id, vi pa.cabin, vi pa.from', vi pa.size, vi pa.tier, vi pa.since, vi pa.turn, vi pa.state, vi pa.until', vi pa.asked], vi now]) Tryz.func68 rfl rfl (NL rfl) ?_
 have hr_seats_len := hr_seats.len
 refine SEQ (REGION [0, 1, 2] rfl (RUL 3 [] [(3, .p 0 0), (4, .p 1 0)] [(31, [.slice r_seats_a r.seats.length r_seats_c, vi r.tiers, vi r.room, vi r.size, vi r.period, vi r.window, vi r.rest, vi r.tries, vi r.crew]), (54, partyE pa)] (by kernel_rfl) rfl (ENDOPS (NEXT (SEQ (SEQ (REGION [0, 1, 2, 3, 4] rfl (RU 3 [3, 4] [(7, .v (.agg #[.slice r_seats_a r.seats.length r_seats_c, vi r.tiers, vi r.room, vi r.size, vi r.period, vi r.window, vi r.rest, vi r.tries, vi r.crew])), (8, .v (.agg (partyE pa).toArray)), (9, I now)] (by kernel_rfl) rfl (OPC (CALL 99 #[.agg #[.slice r_seats_a r.seats.length r_seats_c, vi r.tiers, vi r.room, vi r.size, vi r.period, vi r.window, vi r.rest, vi r.tries, vi r.crew], .agg #[vi pa.id, vi pa.cabin, vi pa.from', vi pa.size, vi pa.tier, vi pa.since, vi pa.turn, vi pa.state, vi pa.until', vi pa.asked], vi now] (some 10) (by kernel_rfl) [] [] _ rfl (RV (.bool (partyOk r pa now))) (fun w hw => sPartyOk_c w r r_seats_a r_seats_c (hr_seats.fr hw.fr) pa now) (NO rfl) ?_))))))))))
 rintro ⟨⟩
 refine RU 1 [] [(11, B (!(partyOk r pa now)))] (by kernel_rfl) rfl (ENDOPS (NEXT (IF (!(partyOk r pa now)) (by kernel_rfl) (fun bh1 => ?_) (fun bh1 => ?_))))
 ·
  have h1 := bh1
  have h1 := notT h1
  refine SEQ (REGION [0] rfl (RU 1 [] [(6, I (-1))] (by kernel_rfl) rfl (ENDOPS (NEXT (RET (PASS trivial (FIN (vi (-1)) (by kernel_rfl) () ?_ [] ?_)))))))
  · simp_all [RV, levelOf]
  · rfl
 ·
  have h1 := bh1
  have h1 := notF h1
  refine SKIP (NEXT (SEQ (REGION [0, 1, 2, 3, 4, 5, 6, 7, 8] rfl (RU 7 [7, 8] [(12, .v (.agg #[.slice r_seats_a r.seats.length r_seats_c, vi r.tiers, vi r.room, vi r.size, vi r.period, vi r.window, vi r.rest, vi r.tries, vi r.crew])), (14, I pa.tier), (18, I (wr (now - pa.since)))] (by kernel_rfl) rfl (OPC (CALL 100 #[.agg #[.slice r_seats_a r.seats.length r_seats_c, vi r.tiers, vi r.room, vi r.size, vi r.period, vi r.window, vi r.rest, vi r.tries, vi r.crew], vi pa.tier, vi (wr (now - pa.since))] (some 19) (by kernel_rfl) [] [] _ rfl (RV (vi (levelAt r pa.tier (wr (now - pa.since))))) (fun w hw => l5Level_c w r r_seats_a r_seats_c (hr_seats.fr hw.fr) pa.tier (wr (now - pa.since)) (by first | assumption | omega | exact per_pos (by assumption))) (NO rfl) ?_))))))
  rintro ⟨⟩
  refine RU 1 [] [(6, I (levelAt r pa.tier (wr (now - pa.since))))] (by kernel_rfl) rfl (ENDOPS (NEXT (RET (FIN (vi (levelAt r pa.tier (wr (now - pa.since)))) (by kernel_rfl) () ?_ [] ?_))))
  · simp_all [RV, levelOf]
  · rfl

theorem sEntryOf_c (W : World) (r : Rules) (r_seats_a : Option Addr) (r_seats_c : Nat) (hr_seats : Rd intL W r_seats_a r.seats) (pa : Party) (now : Int) : Spec Tryz.prog W [] 155 #[.agg #[.slice r_seats_a r.seats.length r_seats_c, vi r.tiers, vi r.room, vi r.size, vi r.period, vi r.window, vi r.rest, vi r.tries, vi r.crew], .agg #[vi pa.id, vi pa.cabin, vi pa.from', vi pa.size, vi pa.tier, vi pa.since, vi pa.turn, vi pa.state, vi pa.until', vi pa.asked], vi now] (RV (.tuple #[.agg #[vi ((entryOf r pa now).level), vi ((entryOf r pa now).turn), vi ((entryOf r pa now).id), vi ((entryOf r pa now).size)], .bool (entryOk r pa now)])) := by
 refine ENTER0 (N := 29) (vs := [.agg #[.slice r_seats_a r.seats.length r_seats_c, vi r.tiers, vi r.room, vi r.size, vi r.period, vi r.window, vi r.rest, vi r.tries, vi r.crew], .agg #[vi pa.id, vi pa.cabin, vi pa.from', vi pa.size, vi pa.tier, vi pa.since, vi pa.turn, vi pa.state, vi pa.until', vi pa.asked], vi now]) Tryz.func155 rfl rfl (NL rfl) ?_
 have hr_seats_len := hr_seats.len
 refine SEQ (REGION [0, 1, 2, 3] rfl (RUL 4 [] [(3, .p 0 0), (4, .p 1 0), (6, .p 2 0)] [(31, [.slice r_seats_a r.seats.length r_seats_c, vi r.tiers, vi r.room, vi r.size, vi r.period, vi r.window, vi r.rest, vi r.tries, vi r.crew]), (54, partyE pa), (114, [vi 0, vi 0, vi 0, vi 0])] (by kernel_rfl) rfl (ENDOPS (NEXT (SEQ (REGION [0, 1, 2, 3, 4] rfl (RU 3 [3, 4] [(9, .v (.agg #[.slice r_seats_a r.seats.length r_seats_c, vi r.tiers, vi r.room, vi r.size, vi r.period, vi r.window, vi r.rest, vi r.tries, vi r.crew])), (10, .v (.agg (partyE pa).toArray)), (11, I now)] (by kernel_rfl) rfl (OPC (CALL 68 #[.agg #[.slice r_seats_a r.seats.length r_seats_c, vi r.tiers, vi r.room, vi r.size, vi r.period, vi r.window, vi r.rest, vi r.tries, vi r.crew], .agg #[vi pa.id, vi pa.cabin, vi pa.from', vi pa.size, vi pa.tier, vi pa.since, vi pa.turn, vi pa.state, vi pa.until', vi pa.asked], vi now] (some 12) (by kernel_rfl) [] [] _ rfl (RV (vi (levelOf r pa now))) (fun w hw => sLevelOf_c w r r_seats_a r_seats_c (hr_seats.fr hw.fr) pa now) (NO rfl) ?_)))))))))
 rintro ⟨⟩
 refine RU 1 [] [(8, I (levelOf r pa now))] (by kernel_rfl) rfl (ENDOPS (NEXT (SEQ (SEQ (REGION [0, 1, 2, 3, 4, 5, 6] rfl (RU 3 [3, 4, 5, 6] [(15, B (decide ((levelOf r pa now) < 0)))] (by kernel_rfl) rfl (SPLIT (d := 15) (decide ((levelOf r pa now) < 0)) (by kernel_rfl) (fun bh1 => ?_) (fun bh1 => ?_))))))))
 ·
  have h1 := bh1
  have h1 := of_decide_eq_true h1
  refine RU 4 [] [(19, B true)] (by kernel_rfl) rfl (ENDOPS (NEXT (IFT (by kernel_rfl) (SEQ (REGION [0, 1, 2] rfl (RU 3 [] [(7, B false)] (by kernel_rfl) rfl (ENDOPS (NEXT (RET (PASS trivial (FIN (.tuple #[.agg #[vi 0, vi 0, vi 0, vi 0], .bool false]) (by kernel_rfl) () ?_ [] ?_)))))))))))
  · simp_all [RV, entryOf, entryOk]
  · rfl
 ·
  have h1 := bh1
  have h1 := of_decide_eq_false h1
  refine RU 4 [] [(19, B (pa.state != 1))] (by kernel_rfl) rfl (ENDOPS (NEXT (IF (pa.state != 1) (by kernel_rfl) (fun bh2 => ?_) (fun bh2 => ?_))))
  ·
   have h2 := bh2
   have h2 := bne_iff_ne.1 h2
   refine SEQ (REGION [0, 1, 2] rfl (RU 3 [] [(7, B false)] (by kernel_rfl) rfl (ENDOPS (NEXT (RET (PASS trivial (FIN (.tuple #[.agg #[vi 0, vi 0, vi 0, vi 0], .bool false]) (by kernel_rfl) () ?_ [] ?_)))))))
   · simp_all [RV, entryOf, entryOk]
   · rfl
  ·
   have h2 := bh2
   have h2 := bneF h2
   refine SKIP (NEXT (SEQ (REGION [0, 1, 2, 3, 4, 5, 6, 7, 8, 9] rfl (RUL 10 [] [(7, B true)] [(31, [.slice r_seats_a r.seats.length r_seats_c, vi r.tiers, vi r.room, vi r.size, vi r.period, vi r.window, vi r.rest, vi r.tries, vi r.crew]), (54, partyE pa), (114, [vi (levelOf r pa now), vi pa.turn, vi pa.id, vi pa.size])] (by kernel_rfl) rfl (ENDOPS (NEXT (RET (FIN (.tuple #[.agg #[vi (levelOf r pa now), vi pa.turn, vi pa.id, vi pa.size], .bool true]) (by kernel_rfl) () ?_ [] ?_))))))))
   · simp_all [RV, entryOf, entryOk]
   · rfl

theorem sLedgerOk_c (W : World) (l : Ledger) : Spec Tryz.prog W [] 152 #[.agg #[vi l.total, vi l.free, vi l.held, vi l.sold, vi l.tied]] (RV (.bool (ledgerOk l))) := by
 refine ENTER0 (N := 47) (vs := [.agg #[vi l.total, vi l.free, vi l.held, vi l.sold, vi l.tied]]) Tryz.func152 rfl rfl (NL rfl) ?_
 refine SEQ (REGION [0, 1] rfl (RUL 2 [] [(1, .p 0 0)] [(68, ledgerE l)] (by kernel_rfl) rfl (ENDOPS (NEXT (SEQ (REGION [0, 1, 2, 3, 4, 5, 6, 7, 8, 9, 10, 11, 12, 13, 14, 15, 16, 17, 18, 19, 20, 21, 22, 23, 24, 25, 26, 27, 28, 29, 30, 31, 32, 33, 34, 35, 36, 37, 38, 39, 40, 41, 42, 43, 44] rfl (RU 2 [2, 3, 4, 5, 6, 7, 8, 9, 10, 11, 12, 13, 14, 15, 16, 17, 18, 19, 20, 21, 22, 23, 24, 25, 26, 27, 28, 29, 30, 31, 32, 33, 34, 35, 36, 37, 38, 39, 40, 41, 42, 43, 44] [(4, I l.total)] (by kernel_rfl) rfl (OPC (CALL 58 #[vi l.total, vi 1, vi 60] (some 5) (by kernel_rfl) [] [] _ rfl (RV (.bool (inB l.total 1 60))) (fun w hw => l1In_c w l.total 1 60) (NO rfl) ?_)))))))))
 rintro ⟨⟩
 refine RU 1 [4, 5, 6, 7, 8, 9, 10, 11, 12, 13, 14, 15, 16, 17, 18, 19, 20, 21, 22, 23, 24, 25, 26, 27, 28, 29, 30, 31, 32, 33, 34, 35, 36, 37, 38, 39, 40, 41, 42, 43, 44] [(6, B (inB l.total 1 60))] (by kernel_rfl) rfl (SPLIT (d := 6) (inB l.total 1 60) (by kernel_rfl) (fun bh1 => ?_) (fun bh1 => ?_))
 ·
  have h1 := bh1
  refine RU 4 [8, 9, 10, 11, 12, 13, 14, 15, 16, 17, 18, 19, 20, 21, 22, 23, 24, 25, 26, 27, 28, 29, 30, 31, 32, 33, 34, 35, 36, 37, 38, 39, 40, 41, 42, 43, 44] [(8, I l.free), (10, I l.total)] (by kernel_rfl) rfl (OPC (CALL 58 #[vi l.free, vi 0, vi l.total] (some 11) (by kernel_rfl) [] [] _ rfl (RV (.bool (inB l.free 0 l.total))) (fun w hw => l1In_c w l.free 0 l.total) (NO rfl) ?_))
  rintro ⟨⟩
  refine RU 2 [11, 12, 13, 14, 15, 16, 17, 18, 19, 20, 21, 22, 23, 24, 25, 26, 27, 28, 29, 30, 31, 32, 33, 34, 35, 36, 37, 38, 39, 40, 41, 42, 43, 44] [(13, B (inB l.free 0 l.total))] (by kernel_rfl) rfl (SPLIT (d := 13) (inB l.free 0 l.total) (by kernel_rfl) (fun bh2 => ?_) (fun bh2 => ?_))
  ·
   have h2 := bh2
   refine RU 4 [15, 16, 17, 18, 19, 20, 21, 22, 23, 24, 25, 26, 27, 28, 29, 30, 31, 32, 33, 34, 35, 36, 37, 38, 39, 40, 41, 42, 43, 44] [(15, I l.held), (17, I l.total)] (by kernel_rfl) rfl (OPC (CALL 58 #[vi l.held, vi 0, vi l.total] (some 18) (by kernel_rfl) [] [] _ rfl (RV (.bool (inB l.held 0 l.total))) (fun w hw => l1In_c w l.held 0 l.total) (NO rfl) ?_))
   rintro ⟨⟩
   refine RU 2 [18, 19, 20, 21, 22, 23, 24, 25, 26, 27, 28, 29, 30, 31, 32, 33, 34, 35, 36, 37, 38, 39, 40, 41, 42, 43, 44] [(20, B (inB l.held 0 l.total))] (by kernel_rfl) rfl (SPLIT (d := 20) (inB l.held 0 l.total) (by kernel_rfl) (fun bh3 => ?_) (fun bh3 => ?_))
   ·
    have h3 := bh3
    refine RU 4 [22, 23, 24, 25, 26, 27, 28, 29, 30, 31, 32, 33, 34, 35, 36, 37, 38, 39, 40, 41, 42, 43, 44] [(22, I l.sold), (24, I l.total)] (by kernel_rfl) rfl (OPC (CALL 58 #[vi l.sold, vi 0, vi l.total] (some 25) (by kernel_rfl) [] [] _ rfl (RV (.bool (inB l.sold 0 l.total))) (fun w hw => l1In_c w l.sold 0 l.total) (NO rfl) ?_))
    rintro ⟨⟩
    refine RU 2 [25, 26, 27, 28, 29, 30, 31, 32, 33, 34, 35, 36, 37, 38, 39, 40, 41, 42, 43, 44] [(27, B (inB l.sold 0 l.total))] (by kernel_rfl) rfl (SPLIT (d := 27) (inB l.sold 0 l.total) (by kernel_rfl) (fun bh4 => ?_) (fun bh4 => ?_))
    ·
     have h4 := bh4
     refine RU 13 [38, 39, 40, 41, 42, 43, 44] [(40, B ((wr ((wr (l.free + l.held)) + l.sold)) == l.total))] (by kernel_rfl) rfl (SPLIT (d := 40) ((wr ((wr (l.free + l.held)) + l.sold)) == l.total) (by kernel_rfl) (fun bh5 => ?_) (fun bh5 => ?_))
     ·
      have h5 := bh5
      have h5 := eq_of_beq h5
      refine RU 4 [42, 43, 44] [(42, I l.tied), (44, I l.sold)] (by kernel_rfl) rfl (OPC (CALL 58 #[vi l.tied, vi 0, vi l.sold] (some 45) (by kernel_rfl) [] [] _ rfl (RV (.bool (inB l.tied 0 l.sold))) (fun w hw => l1In_c w l.tied 0 l.sold) (NO rfl) ?_))
      rintro ⟨⟩
      refine RU 2 [] [(2, B (inB l.tied 0 l.sold))] (by kernel_rfl) rfl (ENDOPS (NEXT (RET (FIN (.bool (inB l.tied 0 l.sold)) (by kernel_rfl) () ?_ [] ?_))))
      · simp_all [RV, ledgerOk]
      · rfl
     ·
      have h5 := bh5
      have h5 := ne_of_beq_false h5
      refine RU 7 [] [(2, B false)] (by kernel_rfl) rfl (ENDOPS (NEXT (RET (FIN (.bool false) (by kernel_rfl) () ?_ [] ?_))))
      · simp_all [RV, ledgerOk]
      · rfl
    ·
     have h4 := bh4
     refine RU 20 [] [(2, B false)] (by kernel_rfl) rfl (ENDOPS (NEXT (RET (FIN (.bool false) (by kernel_rfl) () ?_ [] ?_))))
     · simp_all [RV, ledgerOk]
     · rfl
   ·
    have h3 := bh3
    refine RU 27 [] [(2, B false)] (by kernel_rfl) rfl (ENDOPS (NEXT (RET (FIN (.bool false) (by kernel_rfl) () ?_ [] ?_))))
    · simp_all [RV, ledgerOk]
    · rfl
  ·
   have h2 := bh2
   refine RU 34 [] [(2, B false)] (by kernel_rfl) rfl (ENDOPS (NEXT (RET (FIN (.bool false) (by kernel_rfl) () ?_ [] ?_))))
   · simp_all [RV, ledgerOk]
   · rfl
 ·
  have h1 := bh1
  refine RU 41 [] [(2, B false)] (by kernel_rfl) rfl (ENDOPS (NEXT (RET (FIN (.bool false) (by kernel_rfl) () ?_ [] ?_))))
  · simp_all [RV, ledgerOk]
  · rfl

theorem sCountIn_c (W : World) (list : List Party) (list_a : Option Addr) (list_c : Nat) (hlist : Rd partyL W list_a list) (cabin : Int) : Spec Tryz.prog W [] 75 #[.slice list_a list.length list_c, vi cabin] (RV (vi (countGo list cabin 0))) := by
 refine ENTER0 (N := 23) (vs := [.slice list_a list.length list_c, vi cabin]) Tryz.func75 rfl rfl (NL rfl) ?_
 have hlist_len := hlist.len
 refine SEQ (REGION [0] rfl (RU 1 [] [] (by kernel_rfl) rfl (ENDOPS (NEXT (SEQ (REGION [0] rfl (RU 1 [] [(5, I 0)] (by kernel_rfl) rfl (ENDOPS (NEXT (SEQ (SEQ (REGION [0] rfl (RU 1 [] [(6, I 0)] (by kernel_rfl) rfl (ENDOPS (NEXT (BLOCK (LOOP (ι := Nat × (List Party) × Int) (fun j => [(0, .v (.slice list_a list.length list_c)), (1, I cabin), (5, I j.2.2), (6, I (j.1 : Int))]) (fun j => []) (fun j => []) (fun j => j.1 + j.2.1.length = list.length ∧ list.drop j.1 = j.2.1 ∧ countGo list cabin 0 = countGo j.2.1 cabin j.2.2) (fun j => j.2.1.length) (0, list, 0) [0, 1, 5, 6] ⟨by simp, rfl, rfl⟩ (by kernel_rfl) rfl rfl ?_)))))))))))))))))
 rintro ⟨k, ys, n⟩ ⟨hk, hd, hv0⟩
 try dsimp only at hk hd hv0
 refine SEQ (SEQ (REGION [0, 1, 2, 3] rfl (RU 4 [] [(10, B (decide ((k : Int) < (list.length : Int))))] (by kernel_rfl) rfl (ENDOPS (NEXT (IF (decide ((k : Int) < (list.length : Int))) (by kernel_rfl) (fun bh1 => ?_) (fun bh1 => ?_)))))))
 ·
  have h1 := bh1
  have h1 := of_decide_eq_true h1
  obtain ⟨y2, ys3, rfl, hx_y2, hd_y2, hl_y2⟩ := drop_cons hd hk (by omega)
  refine SKIP (NEXT (SEQ (BLOCK (SEQ (REGION [0, 1, 2, 3, 4, 5, 6] rfl (RU 2 [2, 3, 4, 5, 6] [(13, .v (.slice list_a list.length list_c)), (14, I (k : Int))] (by kernel_rfl) rfl (OPC (INDEX 32 (.tmp 13) (.tmp 14) 15 0 (by kernel_rfl) (NL rfl) list_a list.length list_c .i64 (k : Int) 54 10 (by kernel_rfl) (by kernel_rfl) (by kernel_rfl) (by kernel_rfl) (Rd.some hlist (by omega)) (by omega) (by omega) (RU 1 [4, 5, 6] [(16, .e list_a (k * 10) 1)] (by kernel_rfl) rfl (OPC (LOADE 3 (.tmp 16) 17 3 (by kernel_rfl) (NL rfl) list_a (k * 10) 1 (partyE y2) (vi y2.cabin) (by kernel_rfl) (fun w hw => (hlist.fr hw.fr).flat hx_y2) (by kernel_rfl) (RU 2 [] [(19, B (y2.cabin == cabin))] (by kernel_rfl) rfl (ENDOPS (NEXT (IF (y2.cabin == cabin) (by kernel_rfl) (fun bh4 => ?_) (fun bh4 => ?_))))))))))))))))
  ·
   have h4 := bh4
   have h4 := eq_of_beq h4
   refine REGION [0, 1, 2] rfl (RU 3 [] [(5, I (wr (n + 1)))] (by kernel_rfl) rfl (ENDOPS (OUTN (NEXT (REGION [0, 1, 2] rfl (RU 2 [2] [(12, I (wr ((k : Int) + 1)))] (by kernel_rfl) rfl (CAST (d := 12) (vi (wr ((k : Int) + 1))) (vi ((k + 1 : Nat) : Int)) (by kernel_rfl) (vi_cast (by omega) (by omega)) (RU 1 [] [(6, I ((k + 1 : Nat) : Int))] (by kernel_rfl) rfl (ENDOPS (BACK (k + 1, ys3, wr (n + 1)) [0, 1, 5, 6] 0 [] _ ⟨hl_y2, hd_y2, (hv0.trans (by simp_all [countGo]))⟩ (by simp) (by kernel_rfl) rfl rfl rfl))))))))))
  ·
   have h4 := bh4
   have h4 := ne_of_beq_false h4
   refine SKIP (OUTN (NEXT (REGION [0, 1, 2] rfl (RU 2 [2] [(12, I (wr ((k : Int) + 1)))] (by kernel_rfl) rfl (CAST (d := 12) (vi (wr ((k : Int) + 1))) (vi ((k + 1 : Nat) : Int)) (by kernel_rfl) (vi_cast (by omega) (by omega)) (RU 1 [] [(6, I ((k + 1 : Nat) : Int))] (by kernel_rfl) rfl (ENDOPS (BACK (k + 1, ys3, n) [0, 1, 5, 6] 0 [] _ ⟨hl_y2, hd_y2, (hv0.trans (by simp_all [countGo]))⟩ (by simp) (by kernel_rfl) rfl rfl rfl))))))))
 ·
  have h1 := bh1
  have h1 := of_decide_eq_false h1
  obtain rfl := drop_nil hk (by omega)
  refine EXIT (PASS trivial (PASS trivial (OUT (NEXT (SEQ (REGION [0, 1] rfl (RU 2 [] [(4, I n)] (by kernel_rfl) rfl (ENDOPS (NEXT (RET (FIN (vi n) (by kernel_rfl) () ?_ [] ?_)))))))))))
  · simp_all [RV, countGo]
  · rfl

theorem sHeldIn_c (W : World) (list : List Party) (list_a : Option Addr) (list_c : Nat) (hlist : Rd partyL W list_a list) (cabin : Int) : Spec Tryz.prog W [] 109 #[.slice list_a list.length list_c, vi cabin] (RV (vi (heldGo list cabin 0))) := by
 refine ENTER0 (N := 44) (vs := [.slice list_a list.length list_c, vi cabin]) Tryz.func109 rfl rfl (NL rfl) ?_
 have hlist_len := hlist.len
 refine SEQ (REGION [0] rfl (RU 1 [] [] (by kernel_rfl) rfl (ENDOPS (NEXT (SEQ (REGION [0] rfl (RU 1 [] [(5, I 0)] (by kernel_rfl) rfl (ENDOPS (NEXT (SEQ (SEQ (REGION [0] rfl (RU 1 [] [(6, I 0)] (by kernel_rfl) rfl (ENDOPS (NEXT (BLOCK (LOOP (ι := Nat × (List Party) × Int) (fun j => [(0, .v (.slice list_a list.length list_c)), (1, I cabin), (5, I j.2.2), (6, I (j.1 : Int))]) (fun j => []) (fun j => []) (fun j => j.1 + j.2.1.length = list.length ∧ list.drop j.1 = j.2.1 ∧ heldGo list cabin 0 = heldGo j.2.1 cabin j.2.2) (fun j => j.2.1.length) (0, list, 0) [0, 1, 5, 6] ⟨by simp, rfl, rfl⟩ (by kernel_rfl) rfl rfl ?_)))))))))))))))))
 rintro ⟨k, ys, n⟩ ⟨hk, hd, hv0⟩
 try dsimp only at hk hd hv0
 refine SEQ (SEQ (REGION [0, 1, 2, 3] rfl (RU 4 [] [(10, B (decide ((k : Int) < (list.length : Int))))] (by kernel_rfl) rfl (ENDOPS (NEXT (IF (decide ((k : Int) < (list.length : Int))) (by kernel_rfl) (fun bh1 => ?_) (fun bh1 => ?_)))))))
 ·
  have h1 := bh1
  have h1 := of_decide_eq_true h1
  obtain ⟨y2, ys3, rfl, hx_y2, hd_y2, hl_y2⟩ := drop_cons hd hk (by omega)
  refine SKIP (NEXT (SEQ (BLOCK (SEQ (REGION [0, 1, 2, 3, 4, 5, 6, 7, 8, 9, 10, 11, 12, 13, 14, 15, 16, 17, 18, 19, 20, 21, 22] rfl (RU 2 [2, 3, 4, 5, 6, 7, 8, 9, 10, 11, 12, 13, 14, 15, 16, 17, 18, 19, 20, 21, 22] [(13, .v (.slice list_a list.length list_c)), (14, I (k : Int))] (by kernel_rfl) rfl (OPC (INDEX 32 (.tmp 13) (.tmp 14) 15 0 (by kernel_rfl) (NL rfl) list_a list.length list_c .i64 (k : Int) 54 10 (by kernel_rfl) (by kernel_rfl) (by kernel_rfl) (by kernel_rfl) (Rd.some hlist (by omega)) (by omega) (by omega) (RU 1 [4, 5, 6, 7, 8, 9, 10, 11, 12, 13, 14, 15, 16, 17, 18, 19, 20, 21, 22] [(16, .e list_a (k * 10) 7)] (by kernel_rfl) rfl (OPC (LOADE 3 (.tmp 16) 17 3 (by kernel_rfl) (NL rfl) list_a (k * 10) 7 (partyE y2) (vi y2.state) (by kernel_rfl) (fun w hw => (hlist.fr hw.fr).flat hx_y2) (by kernel_rfl) (RU 2 [7, 8, 9, 10, 11, 12, 13, 14, 15, 16, 17, 18, 19, 20, 21, 22] [(19, B (y2.state == 2))] (by kernel_rfl) rfl (SPLIT (d := 19) (y2.state == 2) (by kernel_rfl) (fun bh4 => ?_) (fun bh4 => ?_))))))))))))))
  ·
   have h4 := bh4
   have h4 := eq_of_beq h4
   refine RU 2 [9, 10, 11, 12, 13, 14, 15, 16, 17, 18, 19, 20, 21, 22] [(20, .v (.slice list_a list.length list_c)), (21, I (k : Int))] (by kernel_rfl) rfl (OPC (INDEX 32 (.tmp 20) (.tmp 21) 22 0 (by kernel_rfl) (NL rfl) list_a list.length list_c .i64 (k : Int) 54 10 (by kernel_rfl) (by kernel_rfl) (by kernel_rfl) (by kernel_rfl) (Rd.some hlist (by omega)) (by omega) (by omega) (RU 1 [11, 12, 13, 14, 15, 16, 17, 18, 19, 20, 21, 22] [(23, .e list_a (k * 10) 1)] (by kernel_rfl) rfl (OPC (LOADE 3 (.tmp 23) 24 3 (by kernel_rfl) (NL rfl) list_a (k * 10) 1 (partyE y2) (vi y2.cabin) (by kernel_rfl) (fun w hw => (hlist.fr hw.fr).flat hx_y2) (by kernel_rfl) (RU 4 [16, 17, 18, 19, 20, 21, 22] [(28, B (y2.cabin == cabin))] (by kernel_rfl) rfl (SPLIT (d := 28) (y2.cabin == cabin) (by kernel_rfl) (fun bh5 => ?_) (fun bh5 => ?_))))))))
   ·
    have h5 := bh5
    have h5 := eq_of_beq h5
    refine RU 2 [18, 19, 20, 21, 22] [(29, .v (.slice list_a list.length list_c)), (30, I (k : Int))] (by kernel_rfl) rfl (OPC (INDEX 32 (.tmp 29) (.tmp 30) 31 0 (by kernel_rfl) (NL rfl) list_a list.length list_c .i64 (k : Int) 54 10 (by kernel_rfl) (by kernel_rfl) (by kernel_rfl) (by kernel_rfl) (Rd.some hlist (by omega)) (by omega) (by omega) (RU 1 [20, 21, 22] [(32, .e list_a (k * 10) 3)] (by kernel_rfl) rfl (OPC (LOADE 3 (.tmp 32) 33 3 (by kernel_rfl) (NL rfl) list_a (k * 10) 3 (partyE y2) (vi y2.size) (by kernel_rfl) (fun w hw => (hlist.fr hw.fr).flat hx_y2) (by kernel_rfl) (OPC (CALL 58 #[vi y2.size, vi 1, vi 6] (some 34) (by kernel_rfl) [] [] _ rfl (RV (.bool (inB y2.size 1 6))) (fun w hw => l1In_c w y2.size 1 6) (NO rfl) ?_)))))))
    rintro ⟨⟩
    refine RU 1 [] [(35, B (inB y2.size 1 6))] (by kernel_rfl) rfl (ENDOPS (NEXT (IF (inB y2.size 1 6) (by kernel_rfl) (fun bh6 => ?_) (fun bh6 => ?_))))
    ·
     have h6 := bh6
     refine REGION [0, 1, 2, 3, 4, 5, 6, 7] rfl (RU 3 [3, 4, 5, 6, 7] [(36, I n), (37, .v (.slice list_a list.length list_c)), (38, I (k : Int))] (by kernel_rfl) rfl (OPC (INDEX 32 (.tmp 37) (.tmp 38) 39 0 (by kernel_rfl) (NL rfl) list_a list.length list_c .i64 (k : Int) 54 10 (by kernel_rfl) (by kernel_rfl) (by kernel_rfl) (by kernel_rfl) (Rd.some hlist (by omega)) (by omega) (by omega) (RU 1 [5, 6, 7] [(40, .e list_a (k * 10) 3)] (by kernel_rfl) rfl (OPC (LOADE 3 (.tmp 40) 41 3 (by kernel_rfl) (NL rfl) list_a (k * 10) 3 (partyE y2) (vi y2.size) (by kernel_rfl) (fun w hw => (hlist.fr hw.fr).flat hx_y2) (by kernel_rfl) (RU 2 [] [(5, I (wr (n + y2.size)))] (by kernel_rfl) rfl (ENDOPS (OUTN (NEXT (REGION [0, 1, 2] rfl (RU 2 [2] [(12, I (wr ((k : Int) + 1)))] (by kernel_rfl) rfl (CAST (d := 12) (vi (wr ((k : Int) + 1))) (vi ((k + 1 : Nat) : Int)) (by kernel_rfl) (vi_cast (by omega) (by omega)) (RU 1 [] [(6, I ((k + 1 : Nat) : Int))] (by kernel_rfl) rfl (ENDOPS (BACK (k + 1, ys3, wr (n + y2.size)) [0, 1, 5, 6] 0 [] _ ⟨hl_y2, hd_y2, (hv0.trans (by simp_all [heldGo]))⟩ (by simp) (by kernel_rfl) rfl rfl rfl))))))))))))))))
    ·
     have h6 := bh6
     refine SKIP (OUTN (NEXT (REGION [0, 1, 2] rfl (RU 2 [2] [(12, I (wr ((k : Int) + 1)))] (by kernel_rfl) rfl (CAST (d := 12) (vi (wr ((k : Int) + 1))) (vi ((k + 1 : Nat) : Int)) (by kernel_rfl) (vi_cast (by omega) (by omega)) (RU 1 [] [(6, I ((k + 1 : Nat) : Int))] (by kernel_rfl) rfl (ENDOPS (BACK (k + 1, ys3, n) [0, 1, 5, 6] 0 [] _ ⟨hl_y2, hd_y2, (hv0.trans (by simp_all [heldGo]))⟩ (by simp) (by kernel_rfl) rfl rfl rfl))))))))
   ·
    have h5 := bh5
    have h5 := ne_of_beq_false h5
    refine RU 7 [] [(35, B false)] (by kernel_rfl) rfl (ENDOPS (NEXT (IFF (by kernel_rfl) (SKIP (OUTN (NEXT (REGION [0, 1, 2] rfl (RU 2 [2] [(12, I (wr ((k : Int) + 1)))] (by kernel_rfl) rfl (CAST (d := 12) (vi (wr ((k : Int) + 1))) (vi ((k + 1 : Nat) : Int)) (by kernel_rfl) (vi_cast (by omega) (by omega)) (RU 1 [] [(6, I ((k + 1 : Nat) : Int))] (by kernel_rfl) rfl (ENDOPS (BACK (k + 1, ys3, n) [0, 1, 5, 6] 0 [] _ ⟨hl_y2, hd_y2, (hv0.trans (by simp_all [heldGo]))⟩ (by simp) (by kernel_rfl) rfl rfl rfl))))))))))))
  ·
   have h4 := bh4
   have h4 := ne_of_beq_false h4
   refine RU 16 [] [(35, B false)] (by kernel_rfl) rfl (ENDOPS (NEXT (IFF (by kernel_rfl) (SKIP (OUTN (NEXT (REGION [0, 1, 2] rfl (RU 2 [2] [(12, I (wr ((k : Int) + 1)))] (by kernel_rfl) rfl (CAST (d := 12) (vi (wr ((k : Int) + 1))) (vi ((k + 1 : Nat) : Int)) (by kernel_rfl) (vi_cast (by omega) (by omega)) (RU 1 [] [(6, I ((k + 1 : Nat) : Int))] (by kernel_rfl) rfl (ENDOPS (BACK (k + 1, ys3, n) [0, 1, 5, 6] 0 [] _ ⟨hl_y2, hd_y2, (hv0.trans (by simp_all [heldGo]))⟩ (by simp) (by kernel_rfl) rfl rfl rfl))))))))))))
 ·
  have h1 := bh1
  have h1 := of_decide_eq_false h1
  obtain rfl := drop_nil hk (by omega)
  refine EXIT (PASS trivial (PASS trivial (OUT (NEXT (SEQ (REGION [0, 1] rfl (RU 2 [] [(4, I n)] (by kernel_rfl) rfl (ENDOPS (NEXT (RET (FIN (vi n) (by kernel_rfl) () ?_ [] ?_)))))))))))
  · simp_all [RV, heldGo]
  · rfl

theorem sTiedIn_c (W : World) (list : List Party) (list_a : Option Addr) (list_c : Nat) (hlist : Rd partyL W list_a list) (cabin : Int) : Spec Tryz.prog W [] 110 #[.slice list_a list.length list_c, vi cabin] (RV (vi (tiedGo list cabin 0))) := by
 refine ENTER0 (N := 36) (vs := [.slice list_a list.length list_c, vi cabin]) Tryz.func110 rfl rfl (NL rfl) ?_
 have hlist_len := hlist.len
 refine SEQ (REGION [0] rfl (RU 1 [] [] (by kernel_rfl) rfl (ENDOPS (NEXT (SEQ (REGION [0] rfl (RU 1 [] [(5, I 0)] (by kernel_rfl) rfl (ENDOPS (NEXT (SEQ (SEQ (REGION [0] rfl (RU 1 [] [(6, I 0)] (by kernel_rfl) rfl (ENDOPS (NEXT (BLOCK (LOOP (ι := Nat × (List Party) × Int) (fun j => [(0, .v (.slice list_a list.length list_c)), (1, I cabin), (5, I j.2.2), (6, I (j.1 : Int))]) (fun j => []) (fun j => []) (fun j => j.1 + j.2.1.length = list.length ∧ list.drop j.1 = j.2.1 ∧ tiedGo list cabin 0 = tiedGo j.2.1 cabin j.2.2) (fun j => j.2.1.length) (0, list, 0) [0, 1, 5, 6] ⟨by simp, rfl, rfl⟩ (by kernel_rfl) rfl rfl ?_)))))))))))))))))
 rintro ⟨k, ys, n⟩ ⟨hk, hd, hv0⟩
 try dsimp only at hk hd hv0
 refine SEQ (SEQ (REGION [0, 1, 2, 3] rfl (RU 4 [] [(10, B (decide ((k : Int) < (list.length : Int))))] (by kernel_rfl) rfl (ENDOPS (NEXT (IF (decide ((k : Int) < (list.length : Int))) (by kernel_rfl) (fun bh1 => ?_) (fun bh1 => ?_)))))))
 ·
  have h1 := bh1
  have h1 := of_decide_eq_true h1
  obtain ⟨y2, ys3, rfl, hx_y2, hd_y2, hl_y2⟩ := drop_cons hd hk (by omega)
  refine SKIP (NEXT (SEQ (BLOCK (SEQ (REGION [0, 1, 2, 3, 4, 5, 6, 7, 8, 9, 10, 11, 12, 13, 14] rfl (RU 2 [2, 3, 4, 5, 6, 7, 8, 9, 10, 11, 12, 13, 14] [(13, .v (.slice list_a list.length list_c)), (14, I (k : Int))] (by kernel_rfl) rfl (OPC (INDEX 32 (.tmp 13) (.tmp 14) 15 0 (by kernel_rfl) (NL rfl) list_a list.length list_c .i64 (k : Int) 54 10 (by kernel_rfl) (by kernel_rfl) (by kernel_rfl) (by kernel_rfl) (Rd.some hlist (by omega)) (by omega) (by omega) (RU 1 [4, 5, 6, 7, 8, 9, 10, 11, 12, 13, 14] [(16, .e list_a (k * 10) 2)] (by kernel_rfl) rfl (OPC (LOADE 3 (.tmp 16) 17 3 (by kernel_rfl) (NL rfl) list_a (k * 10) 2 (partyE y2) (vi y2.from') (by kernel_rfl) (fun w hw => (hlist.fr hw.fr).flat hx_y2) (by kernel_rfl) (RU 3 [8, 9, 10, 11, 12, 13, 14] [(20, B (y2.from' == cabin))] (by kernel_rfl) rfl (SPLIT (d := 20) (y2.from' == cabin) (by kernel_rfl) (fun bh4 => ?_) (fun bh4 => ?_))))))))))))))
  ·
   have h4 := bh4
   have h4 := eq_of_beq h4
   refine RU 2 [10, 11, 12, 13, 14] [(21, .v (.slice list_a list.length list_c)), (22, I (k : Int))] (by kernel_rfl) rfl (OPC (INDEX 32 (.tmp 21) (.tmp 22) 23 0 (by kernel_rfl) (NL rfl) list_a list.length list_c .i64 (k : Int) 54 10 (by kernel_rfl) (by kernel_rfl) (by kernel_rfl) (by kernel_rfl) (Rd.some hlist (by omega)) (by omega) (by omega) (RU 1 [12, 13, 14] [(24, .e list_a (k * 10) 3)] (by kernel_rfl) rfl (OPC (LOADE 3 (.tmp 24) 25 3 (by kernel_rfl) (NL rfl) list_a (k * 10) 3 (partyE y2) (vi y2.size) (by kernel_rfl) (fun w hw => (hlist.fr hw.fr).flat hx_y2) (by kernel_rfl) (OPC (CALL 58 #[vi y2.size, vi 1, vi 6] (some 26) (by kernel_rfl) [] [] _ rfl (RV (.bool (inB y2.size 1 6))) (fun w hw => l1In_c w y2.size 1 6) (NO rfl) ?_)))))))
   rintro ⟨⟩
   refine RU 1 [] [(27, B (inB y2.size 1 6))] (by kernel_rfl) rfl (ENDOPS (NEXT (IF (inB y2.size 1 6) (by kernel_rfl) (fun bh5 => ?_) (fun bh5 => ?_))))
   ·
    have h5 := bh5
    refine REGION [0, 1, 2, 3, 4, 5, 6, 7] rfl (RU 3 [3, 4, 5, 6, 7] [(28, I n), (29, .v (.slice list_a list.length list_c)), (30, I (k : Int))] (by kernel_rfl) rfl (OPC (INDEX 32 (.tmp 29) (.tmp 30) 31 0 (by kernel_rfl) (NL rfl) list_a list.length list_c .i64 (k : Int) 54 10 (by kernel_rfl) (by kernel_rfl) (by kernel_rfl) (by kernel_rfl) (Rd.some hlist (by omega)) (by omega) (by omega) (RU 1 [5, 6, 7] [(32, .e list_a (k * 10) 3)] (by kernel_rfl) rfl (OPC (LOADE 3 (.tmp 32) 33 3 (by kernel_rfl) (NL rfl) list_a (k * 10) 3 (partyE y2) (vi y2.size) (by kernel_rfl) (fun w hw => (hlist.fr hw.fr).flat hx_y2) (by kernel_rfl) (RU 2 [] [(5, I (wr (n + y2.size)))] (by kernel_rfl) rfl (ENDOPS (OUTN (NEXT (REGION [0, 1, 2] rfl (RU 2 [2] [(12, I (wr ((k : Int) + 1)))] (by kernel_rfl) rfl (CAST (d := 12) (vi (wr ((k : Int) + 1))) (vi ((k + 1 : Nat) : Int)) (by kernel_rfl) (vi_cast (by omega) (by omega)) (RU 1 [] [(6, I ((k + 1 : Nat) : Int))] (by kernel_rfl) rfl (ENDOPS (BACK (k + 1, ys3, wr (n + y2.size)) [0, 1, 5, 6] 0 [] _ ⟨hl_y2, hd_y2, (hv0.trans (by simp_all [tiedGo]))⟩ (by simp) (by kernel_rfl) rfl rfl rfl))))))))))))))))
   ·
    have h5 := bh5
    refine SKIP (OUTN (NEXT (REGION [0, 1, 2] rfl (RU 2 [2] [(12, I (wr ((k : Int) + 1)))] (by kernel_rfl) rfl (CAST (d := 12) (vi (wr ((k : Int) + 1))) (vi ((k + 1 : Nat) : Int)) (by kernel_rfl) (vi_cast (by omega) (by omega)) (RU 1 [] [(6, I ((k + 1 : Nat) : Int))] (by kernel_rfl) rfl (ENDOPS (BACK (k + 1, ys3, n) [0, 1, 5, 6] 0 [] _ ⟨hl_y2, hd_y2, (hv0.trans (by simp_all [tiedGo]))⟩ (by simp) (by kernel_rfl) rfl rfl rfl))))))))
  ·
   have h4 := bh4
   have h4 := ne_of_beq_false h4
   refine RU 7 [] [(27, B false)] (by kernel_rfl) rfl (ENDOPS (NEXT (IFF (by kernel_rfl) (SKIP (OUTN (NEXT (REGION [0, 1, 2] rfl (RU 2 [2] [(12, I (wr ((k : Int) + 1)))] (by kernel_rfl) rfl (CAST (d := 12) (vi (wr ((k : Int) + 1))) (vi ((k + 1 : Nat) : Int)) (by kernel_rfl) (vi_cast (by omega) (by omega)) (RU 1 [] [(6, I ((k + 1 : Nat) : Int))] (by kernel_rfl) rfl (ENDOPS (BACK (k + 1, ys3, n) [0, 1, 5, 6] 0 [] _ ⟨hl_y2, hd_y2, (hv0.trans (by simp_all [tiedGo]))⟩ (by simp) (by kernel_rfl) rfl rfl rfl))))))))))))
 ·
  have h1 := bh1
  have h1 := of_decide_eq_false h1
  obtain rfl := drop_nil hk (by omega)
  refine EXIT (PASS trivial (PASS trivial (OUT (NEXT (SEQ (REGION [0, 1] rfl (RU 2 [] [(4, I n)] (by kernel_rfl) rfl (ENDOPS (NEXT (RET (FIN (vi n) (by kernel_rfl) () ?_ [] ?_)))))))))))
  · simp_all [RV, tiedGo]
  · rfl

theorem l9Less_c (W : World) (a : Pin) (b : Pin) : Spec Tryz.prog W [] 199 #[.agg #[vi a.at', vi a.id], .agg #[vi b.at', vi b.id]] (RV (.bool (pinLess a b))) := by
 refine ENTER0 (N := 24) (vs := [.agg #[vi a.at', vi a.id], .agg #[vi b.at', vi b.id]]) Tryz.func199 rfl rfl (NL rfl) ?_
 refine SEQ (REGION [0, 1, 2] rfl (RUL 3 [] [(2, .p 0 0), (3, .p 1 0)] [(127, pinE a), (127, pinE b)] (by kernel_rfl) rfl (ENDOPS (NEXT (SEQ (REGION [0, 1, 2, 3, 4, 5, 6, 7, 8, 9, 10, 11, 12, 13, 14, 15, 16, 17, 18, 19] rfl (RU 6 [6, 7, 8, 9, 10, 11, 12, 13, 14, 15, 16, 17, 18, 19] [(10, B (decide (a.at' < b.at')))] (by kernel_rfl) rfl (SPLIT (d := 10) (decide (a.at' < b.at')) (by kernel_rfl) (fun bh1 => ?_) (fun bh1 => ?_)))))))))
 ·
  have h1 := bh1
  have h1 := of_decide_eq_true h1
  refine RU 14 [] [(4, B true)] (by kernel_rfl) rfl (ENDOPS (NEXT (RET (FIN (.bool true) (by kernel_rfl) () ?_ [] ?_))))
  · simp [RV, pinLess, *]
  · rfl
 ·
  have h1 := bh1
  have h1 := of_decide_eq_false h1
  refine RU 6 [12, 13, 14, 15, 16, 17, 18, 19] [(16, B (a.at' == b.at'))] (by kernel_rfl) rfl (SPLIT (d := 16) (a.at' == b.at') (by kernel_rfl) (fun bh2 => ?_) (fun bh2 => ?_))
  ·
   have h2 := bh2
   have h2 := eq_of_beq h2
   refine RU 8 [] [(4, B (decide (a.id < b.id)))] (by kernel_rfl) rfl (ENDOPS (NEXT (RET (FIN (.bool (decide (a.id < b.id))) (by kernel_rfl) () ?_ [] ?_))))
   · simp [RV, pinLess, *]
   · rfl
  ·
   have h2 := bh2
   have h2 := ne_of_beq_false h2
   refine RU 8 [] [(4, B false)] (by kernel_rfl) rfl (ENDOPS (NEXT (RET (FIN (.bool false) (by kernel_rfl) () ?_ [] ?_))))
   · simp [RV, pinLess, *]
   · rfl

theorem entryLess_c (W : World) (a : Entry) (b : Entry) : Spec Tryz.prog W [] 197 #[.agg #[vi a.level, vi a.turn, vi a.id, vi a.size], .agg #[vi b.level, vi b.turn, vi b.id, vi b.size]] (RV (.bool (entryLess a b))) := by
 refine ENTER0 (N := 24) (vs := [.agg #[vi a.level, vi a.turn, vi a.id, vi a.size], .agg #[vi b.level, vi b.turn, vi b.id, vi b.size]]) Tryz.func197 rfl rfl (NL rfl) ?_
 refine SEQ (REGION [0, 1, 2] rfl (RUL 3 [] [(2, .p 0 0), (3, .p 1 0)] [(114, entryE a), (114, entryE b)] (by kernel_rfl) rfl (ENDOPS (NEXT (SEQ (REGION [0, 1, 2, 3, 4, 5, 6, 7, 8, 9, 10, 11, 12, 13, 14, 15, 16, 17, 18, 19] rfl (RU 6 [6, 7, 8, 9, 10, 11, 12, 13, 14, 15, 16, 17, 18, 19] [(10, B (decide (a.level < b.level)))] (by kernel_rfl) rfl (SPLIT (d := 10) (decide (a.level < b.level)) (by kernel_rfl) (fun bh1 => ?_) (fun bh1 => ?_)))))))))
 ·
  have h1 := bh1
  have h1 := of_decide_eq_true h1
  refine RU 14 [] [(4, B true)] (by kernel_rfl) rfl (ENDOPS (NEXT (RET (FIN (.bool true) (by kernel_rfl) () ?_ [] ?_))))
  · simp [RV, entryLess, *]
  · rfl
 ·
  have h1 := bh1
  have h1 := of_decide_eq_false h1
  refine RU 6 [12, 13, 14, 15, 16, 17, 18, 19] [(16, B (a.level == b.level))] (by kernel_rfl) rfl (SPLIT (d := 16) (a.level == b.level) (by kernel_rfl) (fun bh2 => ?_) (fun bh2 => ?_))
  ·
   have h2 := bh2
   have h2 := eq_of_beq h2
   refine RU 8 [] [(4, B (decide (a.turn < b.turn)))] (by kernel_rfl) rfl (ENDOPS (NEXT (RET (FIN (.bool (decide (a.turn < b.turn))) (by kernel_rfl) () ?_ [] ?_))))
   · simp [RV, entryLess, *]
   · rfl
  ·
   have h2 := bh2
   have h2 := ne_of_beq_false h2
   refine RU 8 [] [(4, B false)] (by kernel_rfl) rfl (ENDOPS (NEXT (RET (FIN (.bool false) (by kernel_rfl) () ?_ [] ?_))))
   · simp [RV, entryLess, *]
   · rfl

theorem l7Copy_c (W : World) (list : List Entry) (list_a : Option Addr) (list_c : Nat) (hlist : Rd entryL W list_a list) (hb : list.length ≤ 1048576) : Spec Tryz.prog W [] 159 #[.slice list_a list.length list_c] (⟨HH, fun p => .slice p.1 list.length p.2, fun p => [slA 114 entryL (.slice p.1 list.length p.2) list]⟩) := by
 refine ENTER0 (N := 6) (vs := [.slice list_a list.length list_c]) Tryz.func159 rfl rfl (NL rfl) ?_
 have hlist_len := hlist.len
 refine SEQ (REGION [0] rfl (RU 1 [] [] (by kernel_rfl) rfl (ENDOPS (NEXT (SEQ (REGION [0, 1, 2, 3] rfl (OPC (BUILDS 69 0 #[] 3 69 (by kernel_rfl) (NL rfl) 114 [] (by kernel_rfl) entryL [] rfl (by simp only [maxLen]; omega) [] [] _ rfl (flatRep rfl) (fun a1 ha2 => (RU 1 [2, 3] [(4, .v (.slice list_a list.length list_c))] (by kernel_rfl) rfl (OPC (APPENDR 69 (.tmp 3) (.tmp 4) 5 69 (by kernel_rfl) (NL rfl) (.slice a1 0 0) list_a list.length list_c (by kernel_rfl) (by kernel_rfl) 114 (by kernel_rfl) (.agg #[vi 0, vi 0, vi 0, vi 0]) 32 (by kernel_rfl) rfl (by decide) 0 ([]) list _ rfl rfl (fun w hw => (hlist.fr hw.fr)) (by first | omega | (simp only [List.length_append, List.length_cons, List.length_nil, List.length_take, List.length_drop] at *; omega)) (by simp only [maxLen]; first | omega | (simp only [List.length_append, List.length_cons, List.length_nil, List.length_take, List.length_drop] at *; omega)) (fun a3 c4 hn5 => (RU 1 [] [(2, .v (.slice a3 ((([]) ++ list).length) c4))] (by kernel_rfl) rfl (ENDOPS (NEXT (RET ?_)))))))))))))))))
 have e6 : ([]) ++ list = list := by simp
 refine FIN (.slice a3 ((([]) ++ list).length) c4) (by kernel_rfl) (a3, c4) ?_ [0] ?_
 · exact congrArg (fun z : List Entry => Value.slice a3 z.length c4) e6
 · exact congrArg (fun z : List Entry => some [slA 114 entryL (.slice a3 z.length c4) z]) e6

theorem sl7Put_c (W : World) (list : List Entry) (list_a : Option Addr) (list_c : Nat) (hlist : Rd entryL W list_a list) (e : Entry) (hcap : list.length ≤ list_c) (hb : list.length ≤ 1048576) : Spec Tryz.prog W [] 156 #[.slice list_a list.length list_c, .agg #[vi e.level, vi e.turn, vi e.id, vi e.size]] (⟨HH, fun p => .slice p.1 ((qIns list e).length) p.2, fun p => [slA 114 entryL (.slice p.1 (qIns list e).length p.2) (qIns list e)]⟩) := by
 refine ENTER0 (N := 33) (vs := [.slice list_a list.length list_c, .agg #[vi e.level, vi e.turn, vi e.id, vi e.size]]) Tryz.func156 rfl rfl (NL rfl) ?_
 have hlist_len := hlist.len
 refine SEQ (REGION [0, 1] rfl (RUL 2 [] [(3, .p 0 0)] [(114, entryE e)] (by kernel_rfl) rfl (ENDOPS (NEXT (SEQ (REGION [0] rfl (RU 1 [] [(5, I 0)] (by kernel_rfl) rfl (ENDOPS (NEXT (SEQJ (ι := Nat) (fun j => [(0, .v (.slice list_a list.length list_c)), (3, .p 0 0), (5, I (j : Int))]) (fun j => [(114, entryE e)]) (fun j => []) (fun j => j ≤ list.length ∧ qIns list e = list.take j ++ e :: list.drop j) ?_ ?_))))))))))
 ·
  refine BLOCK (LOOP (ι := Nat × (List Entry)) (fun j => [(0, .v (.slice list_a list.length list_c)), (3, .p 0 0), (5, I (j.1 : Int))]) (fun j => [(114, entryE e)]) (fun j => []) (fun j => j.1 + j.2.length = list.length ∧ list.drop j.1 = j.2 ∧ qIns list e = list.take j.1 ++ qIns j.2 e) (fun j => j.2.length) (0, list) [0, 3, 5] ⟨by simp, rfl, by simp⟩ (by kernel_rfl) rfl rfl ?_)
  rintro ⟨k, ys⟩ ⟨hk, hd, hv0⟩
  try dsimp only at hk hd hv0
  refine SEQ (SEQ (REGIONQ (by kernel_rfl) (by kernel_rfl) (QRU 5 0 5 [(11, B (decide ((k : Int) < (list.length : Int))))] (by kernel_rfl) rfl (QSPLIT (d := 11) (decide ((k : Int) < (list.length : Int))) (by kernel_rfl) (fun bh1 => ?_) (fun bh1 => ?_)))))
  ·
   have h1 := bh1
   have h1 := of_decide_eq_true h1
   obtain ⟨y2, ys3, rfl, hx_y2, hd_y2, hl_y2⟩ := drop_cons hd hk (by omega)
   refine QRU 2 5 7 [(12, .v (.slice list_a list.length list_c)), (13, I (k : Int))] (by kernel_rfl) rfl (QINDEX 69 (.tmp 12) (.tmp 13) 14 0 (by kernel_rfl) (NL rfl) list_a list.length list_c .i64 (k : Int) 114 4 (by kernel_rfl) (by kernel_rfl) (by kernel_rfl) (by kernel_rfl) (Rd.some hlist (by omega)) (by omega) (by omega) (QLOADE 114 (.tmp 14) 15 114 (by kernel_rfl) (NL rfl) list_a (k * 4) 0 (entryE y2) (.agg (entryE y2).toArray) (by kernel_rfl) (fun w hw => (hlist.fr hw.fr).flat hx_y2) (by kernel_rfl) (QRU 1 9 10 [(16, .v (.agg (entryE e).toArray))] (by kernel_rfl) rfl (QCALL 197 #[.agg #[vi y2.level, vi y2.turn, vi y2.id, vi y2.size], .agg #[vi e.level, vi e.turn, vi e.id, vi e.size]] (some 17) (by kernel_rfl) (.bool (entryLess y2 e)) (fun w hw => entryLess_c w y2 e) (NO rfl) (QRU 1 11 12 [(18, B (entryLess y2 e))] (by kernel_rfl) rfl (QEND rfl (NEXT (IF (entryLess y2 e) (by kernel_rfl) (fun bh4 => ?_) (fun bh4 => ?_)))))))))
   ·
    have h4 := bh4
    refine SKIP (NEXT (BLOCK (REGION [0, 1, 2] rfl (RU 2 [2] [(20, I (wr ((k : Int) + 1)))] (by kernel_rfl) rfl (CAST (d := 20) (vi (wr ((k : Int) + 1))) (vi ((k + 1 : Nat) : Int)) (by kernel_rfl) (vi_cast (by omega) (by omega)) (RU 1 [] [(5, I ((k + 1 : Nat) : Int))] (by kernel_rfl) rfl (ENDOPS (OUTN (BACK (k + 1, ys3) [0, 3, 5] 1 [] _ ⟨hl_y2, hd_y2, (hv0.trans (by simp_all [qIns, List.take_add_one]))⟩ (by simp) (by kernel_rfl) rfl rfl rfl)))))))))
   ·
    have h4 := bh4
    refine EXIT (PASS trivial (PASS trivial (OUT (JBACK (k) [0, 3, 5] 1 [] _ ⟨by first | omega | (dsimp only; simp at *; omega), by simp_all [qIns]⟩ (by kernel_rfl) rfl rfl rfl))))
  ·
   have h1 := bh1
   have h1 := of_decide_eq_false h1
   obtain rfl := drop_nil hk (by omega)
   refine QRU 7 5 12 [(18, B false)] (by kernel_rfl) rfl (QEND rfl (NEXT (IFF (by kernel_rfl) (EXIT (PASS trivial (PASS trivial (OUT (JBACK (k) [0, 3, 5] 1 [] _ ⟨by first | omega | (dsimp only; simp at *; omega), by simp_all [qIns]⟩ (by kernel_rfl) rfl rfl rfl))))))))
 rintro kk ⟨hkl, hke⟩
 try dsimp only at hkl hke
 refine SEQJ (ι := (Option Addr) × Nat) (fun j => [(0, .v (.slice list_a list.length list_c)), (5, I (kk : Int)), (6, .v (.slice j.1 (((list.take kk) ++ ([e])).length) j.2))]) (fun j => [(114, entryE e)]) (fun j => [slA 114 entryL (.slice j.1 (((list.take kk) ++ ([e])).length) j.2) ((list.take kk) ++ ([e]))]) (fun j => True) ?_ ?_
 ·
  refine EXPORT (fun bs hbs => ?_)
  obtain ⟨b5, rfl⟩ := len1 hbs
  refine REGIONH (by kernel_rfl) 8 rfl [ptC b5 114 [vi e.level, vi e.turn, vi e.id, vi e.size]] (HPU (js := [0]) 0 [(21, .v (.slice list_a list.length list_c))] (by kernel_rfl) (by kernel_rfl) rfl (HPU (js := [0]) 1 [(22, I (kk : Int))] (by kernel_rfl) (by kernel_rfl) rfl (HLOADE (i := 4) (js := [0])  114 (.tmp 3) 25 114 (by kernel_rfl) (NL rfl) (some ⟨b5, 0, none⟩) 0 0 (entryE e) (.agg (entryE e).toArray) (by kernel_rfl) (fun w hw => ptC_elem (hw.own 0 rfl)) (by kernel_rfl) (by kernel_rfl) rfl (HALL [2, 5] (by kernel_rfl) (by decide) ⟨?_, ?_⟩))))
  ·
   refine CUTH 69 (.tmp 21) (.tmp 22) 23 69 (by kernel_rfl) (NL rfl) list_a list.length list_c .i64 (kk : Int) (by kernel_rfl) (by kernel_rfl) 114 entryL list (by kernel_rfl) (by kernel_rfl) (by omega) (by first | omega | (simp only [List.length_append, List.length_cons, List.length_nil, List.length_take, List.length_drop] at *; omega)) rfl (by omega) (fun a6 hsh7 => ?_)
   have hsh7 : ∀ w, Rd entryL w list_a list → Rd entryL w a6 (list.take kk) := hsh7
   have hln8 : (list.take kk).length = kk := by first | (simp; done) | (simp; omega)
   refine CAST (d := 23) (.slice a6 kk list_c) (.slice a6 ((list.take kk).length) list_c) (by kernel_rfl) (by rw [hln8]) (HKEEP (js := [0]) rfl (HALL [3, 5] (by kernel_rfl) (by decide) ⟨?_, ?_⟩))
   ·
    refine CALL 159 #[.slice a6 ((list.take kk).length) list_c] (some 24) (by kernel_rfl) [] [] _ rfl (⟨HH, fun p => .slice p.1 ((list.take kk).length) p.2, fun p => [slA 114 entryL (.slice p.1 (list.take kk).length p.2) (list.take kk)]⟩) (fun w hw => l7Copy_c w (list.take kk) a6 list_c (hsh7 _ (hlist.fr hw.fr)) (by first | assumption | omega)) (NO rfl) ?_
    rintro ⟨a9, c10⟩
    refine HKEEP (js := [0]) rfl (HALL [5] (by kernel_rfl) (by decide) (BUILDS 69 1 #[(0, .tmp 25)] 26 69 (by kernel_rfl) (NL rfl) 114 [vi e.level, vi e.turn, vi e.id, vi e.size] (by kernel_rfl) entryL [e] rfl (by simp only [maxLen]; omega) [] [] _ rfl (flatRep rfl) (fun a11 ha12 => (HKEEP (js := [0]) rfl (HALL [6] (by kernel_rfl) (by decide) (APPENDO 69 (.tmp 24) (.tmp 26) 27 69 (by kernel_rfl) (NL rfl) (.slice a9 ((list.take kk).length) c10) a11 1 1 (by kernel_rfl) (by kernel_rfl) ha12 114 (by kernel_rfl) entryL (.agg #[vi 0, vi 0, vi 0, vi 0]) 32 (by kernel_rfl) rfl (by decide) 1 1 (list.take kk) ([e]) _ rfl rfl (by first | omega | (simp only [List.length_append, List.length_cons, List.length_nil, List.length_take, List.length_drop] at *; omega)) (by simp only [maxLen]; first | omega | (simp only [List.length_append, List.length_cons, List.length_nil, List.length_take, List.length_drop] at *; omega)) (fun a13 c14 hn15 => (HKEEP (js := [0]) rfl (HPU (js := [0]) 7 [(6, .v (.slice a13 (((list.take kk) ++ ([e])).length) c14))] (by kernel_rfl) (by kernel_rfl) rfl (HEND (by kernel_rfl) (IMPORT (L0 := [(114, entryE e)]) (L1 := []) [b5] rfl [0] _ rfl [(0, .v (.slice list_a list.length list_c)), (5, I (kk : Int)), (6, .v (.slice a13 (((list.take kk) ++ ([e])).length) c14))] (by kernel_rfl) (by kernel_rfl) (JBACK (a13, c14) [0, 5, 6] 1 [0] _ trivial (by kernel_rfl) rfl rfl rfl))))))))))))
   ·
    refine BUILDS 69 1 #[(0, .tmp 25)] 26 69 (by kernel_rfl) (NL rfl) 114 [vi e.level, vi e.turn, vi e.id, vi e.size] (by kernel_rfl) entryL [e] rfl (by simp only [maxLen]; omega) [] [] _ rfl (flatRep rfl) (fun a16 ha17 => (HKEEP (js := [0]) rfl (HALL [3] (by kernel_rfl) (by decide) (CALL 159 #[.slice a6 ((list.take kk).length) list_c] (some 24) (by kernel_rfl) [] [] _ rfl (⟨HH, fun p => .slice p.1 ((list.take kk).length) p.2, fun p => [slA 114 entryL (.slice p.1 (list.take kk).length p.2) (list.take kk)]⟩) (fun w hw => l7Copy_c w (list.take kk) a6 list_c (hsh7 _ (hlist.fr hw.fr)) (by first | assumption | omega)) (NO rfl) ?_))))
    rintro ⟨a18, c19⟩
    refine HKEEP (js := [0]) rfl (HALL [6] (by kernel_rfl) (by decide) (APPENDO 69 (.tmp 24) (.tmp 26) 27 69 (by kernel_rfl) (NL rfl) (.slice a18 ((list.take kk).length) c19) a16 1 1 (by kernel_rfl) (by kernel_rfl) ha17 114 (by kernel_rfl) entryL (.agg #[vi 0, vi 0, vi 0, vi 0]) 32 (by kernel_rfl) rfl (by decide) 2 1 (list.take kk) ([e]) _ rfl rfl (by first | omega | (simp only [List.length_append, List.length_cons, List.length_nil, List.length_take, List.length_drop] at *; omega)) (by simp only [maxLen]; first | omega | (simp only [List.length_append, List.length_cons, List.length_nil, List.length_take, List.length_drop] at *; omega)) (fun a20 c21 hn22 => (HKEEP (js := [0]) rfl (HPU (js := [0]) 7 [(6, .v (.slice a20 (((list.take kk) ++ ([e])).length) c21))] (by kernel_rfl) (by kernel_rfl) rfl (HEND (by kernel_rfl) (IMPORT (L0 := [(114, entryE e)]) (L1 := []) [b5] rfl [0] _ rfl [(0, .v (.slice list_a list.length list_c)), (5, I (kk : Int)), (6, .v (.slice a20 (((list.take kk) ++ ([e])).length) c21))] (by kernel_rfl) (by kernel_rfl) (JBACK (a20, c21) [0, 5, 6] 1 [0] _ trivial (by kernel_rfl) rfl rfl rfl))))))))
  ·
   refine BUILDS 69 1 #[(0, .tmp 25)] 26 69 (by kernel_rfl) (NL rfl) 114 [vi e.level, vi e.turn, vi e.id, vi e.size] (by kernel_rfl) entryL [e] rfl (by simp only [maxLen]; omega) [] [] _ rfl (flatRep rfl) (fun a23 ha24 => (HKEEP (js := [0]) rfl (HALL [2] (by kernel_rfl) (by decide) (CUTH 69 (.tmp 21) (.tmp 22) 23 69 (by kernel_rfl) (NL rfl) list_a list.length list_c .i64 (kk : Int) (by kernel_rfl) (by kernel_rfl) 114 entryL list (by kernel_rfl) (by kernel_rfl) (by omega) (by first | omega | (simp only [List.length_append, List.length_cons, List.length_nil, List.length_take, List.length_drop] at *; omega)) rfl (by omega) (fun a25 hsh26 => ?_)))))
   have hsh26 : ∀ w, Rd entryL w list_a list → Rd entryL w a25 (list.take kk) := hsh26
   have hln27 : (list.take kk).length = kk := by first | (simp; done) | (simp; omega)
   refine CAST (d := 23) (.slice a25 kk list_c) (.slice a25 ((list.take kk).length) list_c) (by kernel_rfl) (by rw [hln27]) (HKEEP (js := [0]) rfl (HALL [3] (by kernel_rfl) (by decide) (CALL 159 #[.slice a25 ((list.take kk).length) list_c] (some 24) (by kernel_rfl) [] [] _ rfl (⟨HH, fun p => .slice p.1 ((list.take kk).length) p.2, fun p => [slA 114 entryL (.slice p.1 (list.take kk).length p.2) (list.take kk)]⟩) (fun w hw => l7Copy_c w (list.take kk) a25 list_c (hsh26 _ (hlist.fr hw.fr)) (by first | assumption | omega)) (NO rfl) ?_)))
   rintro ⟨a28, c29⟩
   refine HKEEP (js := [0]) rfl (HALL [6] (by kernel_rfl) (by decide) (APPENDO 69 (.tmp 24) (.tmp 26) 27 69 (by kernel_rfl) (NL rfl) (.slice a28 ((list.take kk).length) c29) a23 1 1 (by kernel_rfl) (by kernel_rfl) ha24 114 (by kernel_rfl) entryL (.agg #[vi 0, vi 0, vi 0, vi 0]) 32 (by kernel_rfl) rfl (by decide) 2 1 (list.take kk) ([e]) _ rfl rfl (by first | omega | (simp only [List.length_append, List.length_cons, List.length_nil, List.length_take, List.length_drop] at *; omega)) (by simp only [maxLen]; first | omega | (simp only [List.length_append, List.length_cons, List.length_nil, List.length_take, List.length_drop] at *; omega)) (fun a30 c31 hn32 => (HKEEP (js := [0]) rfl (HPU (js := [0]) 7 [(6, .v (.slice a30 (((list.take kk) ++ ([e])).length) c31))] (by kernel_rfl) (by kernel_rfl) rfl (HEND (by kernel_rfl) (IMPORT (L0 := [(114, entryE e)]) (L1 := []) [b5] rfl [0] _ rfl [(0, .v (.slice list_a list.length list_c)), (5, I (kk : Int)), (6, .v (.slice a30 (((list.take kk) ++ ([e])).length) c31))] (by kernel_rfl) (by kernel_rfl) (JBACK (a30, c31) [0, 5, 6] 1 [0] _ trivial (by kernel_rfl) rfl rfl rfl))))))))
 rintro ⟨oa, oc⟩ hi33
 try dsimp only at hi33
 refine SEQ (REGION [0, 1, 2, 3, 4, 5] rfl (RU 3 [3, 4, 5] [(28, .v (.slice oa (((list.take kk) ++ ([e])).length) oc)), (29, .v (.slice list_a list.length list_c)), (30, I (kk : Int))] (by kernel_rfl) rfl (OPC (CUTL 69 (.tmp 29) (.tmp 30) 31 69 (by kernel_rfl) (NL rfl) list_a list.length list_c .i64 (kk : Int) (by kernel_rfl) (by kernel_rfl) 114 entryL list (by kernel_rfl) (by kernel_rfl) (by omega) (by first | omega | (simp only [List.length_append, List.length_cons, List.length_nil, List.length_take, List.length_drop] at *; omega)) rfl (by omega) (fun a34 hsh35 => ?_)))))
 have hsh35 : ∀ w, Rd entryL w list_a list → Rd entryL w a34 (list.drop kk) := hsh35
 have hln36 : (list.drop kk).length = list.length - kk := by first | (simp; done) | (simp; omega)
 refine CAST (d := 31) (.slice a34 (list.length - kk) (list_c - kk)) (.slice a34 ((list.drop kk).length) (list_c - kk)) (by kernel_rfl) (by rw [hln36]) (OPC (APPENDR 69 (.tmp 28) (.tmp 31) 32 69 (by kernel_rfl) (NL rfl) (.slice oa (((list.take kk) ++ ([e])).length) oc) a34 ((list.drop kk).length) (list_c - kk) (by kernel_rfl) (by kernel_rfl) 114 (by kernel_rfl) (.agg #[vi 0, vi 0, vi 0, vi 0]) 32 (by kernel_rfl) rfl (by decide) 0 ((list.take kk) ++ ([e])) (list.drop kk) _ rfl rfl (fun w hw => (hsh35 _ (hlist.fr hw.fr))) (by first | omega | (simp only [List.length_append, List.length_cons, List.length_nil, List.length_take, List.length_drop] at *; omega)) (by simp only [maxLen]; first | omega | (simp only [List.length_append, List.length_cons, List.length_nil, List.length_take, List.length_drop] at *; omega)) (fun a37 c38 hn39 => (RU 1 [] [(4, .v (.slice a37 ((((list.take kk) ++ ([e])) ++ (list.drop kk)).length) c38))] (by kernel_rfl) rfl (ENDOPS (NEXT (RET ?_)))))))
 have efin : qIns list e = ((list.take kk) ++ ([e])) ++ (list.drop kk) := by rw [hke]; simp
 refine FIN (.slice a37 ((((list.take kk) ++ ([e])) ++ (list.drop kk)).length) c38) (by kernel_rfl) (a37, c38) ?_ [0] ?_
 · (rw [efin] <;> rfl)
 · (rw [efin] <;> rfl)

theorem sl9Put_c (W : World) (list : List Pin) (list_a : Option Addr) (list_c : Nat) (hlist : Rd pinL W list_a list) (e : Pin) (hcap : list.length ≤ list_c) (hb : list.length ≤ 4194304) : Spec Tryz.prog W [] 158 #[.slice list_a list.length list_c, .agg #[vi e.at', vi e.id]] (⟨HH, fun p => .slice p.1 ((pIns list e).length) p.2, fun p => [slA 127 pinL (.slice p.1 (pIns list e).length p.2) (pIns list e)]⟩) := by
 refine ENTER0 (N := 35) (vs := [.slice list_a list.length list_c, .agg #[vi e.at', vi e.id]]) Tryz.func158 rfl rfl (NL rfl) ?_
 have hlist_len := hlist.len
 refine SEQ (REGION [0, 1] rfl (RUL 2 [] [(3, .p 0 0)] [(127, pinE e)] (by kernel_rfl) rfl (ENDOPS (NEXT (SEQ (REGION [0] rfl (RU 1 [] [(5, I 0)] (by kernel_rfl) rfl (ENDOPS (NEXT (SEQJ (ι := Nat) (fun j => [(0, .v (.slice list_a list.length list_c)), (3, .p 0 0), (5, I (j : Int))]) (fun j => [(127, pinE e)]) (fun j => []) (fun j => j ≤ list.length ∧ pIns list e = list.take j ++ e :: list.drop j) ?_ ?_))))))))))
 ·
  refine BLOCK (LOOP (ι := Nat × (List Pin)) (fun j => [(0, .v (.slice list_a list.length list_c)), (3, .p 0 0), (5, I (j.1 : Int))]) (fun j => [(127, pinE e)]) (fun j => []) (fun j => j.1 + j.2.length = list.length ∧ list.drop j.1 = j.2 ∧ pIns list e = list.take j.1 ++ pIns j.2 e) (fun j => j.2.length) (0, list) [0, 3, 5] ⟨by simp, rfl, by simp⟩ (by kernel_rfl) rfl rfl ?_)
  rintro ⟨k, ys⟩ ⟨hk, hd, hv0⟩
  try dsimp only at hk hd hv0
  refine SEQ (SEQ (REGIONQ (by kernel_rfl) (by kernel_rfl) (QRU 5 0 5 [(11, B (decide ((k : Int) < (list.length : Int))))] (by kernel_rfl) rfl (QSPLIT (d := 11) (decide ((k : Int) < (list.length : Int))) (by kernel_rfl) (fun bh1 => ?_) (fun bh1 => ?_)))))
  ·
   have h1 := bh1
   have h1 := of_decide_eq_true h1
   obtain ⟨y2, ys3, rfl, hx_y2, hd_y2, hl_y2⟩ := drop_cons hd hk (by omega)
   refine QRU 2 5 7 [(12, .v (.slice list_a list.length list_c)), (13, I (k : Int))] (by kernel_rfl) rfl (QINDEX 116 (.tmp 12) (.tmp 13) 14 0 (by kernel_rfl) (NL rfl) list_a list.length list_c .i64 (k : Int) 127 2 (by kernel_rfl) (by kernel_rfl) (by kernel_rfl) (by kernel_rfl) (Rd.some hlist (by omega)) (by omega) (by omega) (QLOADE 127 (.tmp 14) 15 127 (by kernel_rfl) (NL rfl) list_a (k * 2) 0 (pinE y2) (.agg (pinE y2).toArray) (by kernel_rfl) (fun w hw => (hlist.fr hw.fr).flat hx_y2) (by kernel_rfl) (QRU 1 9 10 [(16, .v (.agg (pinE e).toArray))] (by kernel_rfl) rfl (QCALL 199 #[.agg #[vi y2.at', vi y2.id], .agg #[vi e.at', vi e.id]] (some 17) (by kernel_rfl) (.bool (pinLess y2 e)) (fun w hw => l9Less_c w y2 e) (NO rfl) (QRU 1 11 12 [(18, B (pinLess y2 e))] (by kernel_rfl) rfl (QEND rfl (NEXT (IF (pinLess y2 e) (by kernel_rfl) (fun bh4 => ?_) (fun bh4 => ?_)))))))))
   ·
    have h4 := bh4
    refine SKIP (NEXT (BLOCK (REGION [0, 1, 2] rfl (RU 2 [2] [(20, I (wr ((k : Int) + 1)))] (by kernel_rfl) rfl (CAST (d := 20) (vi (wr ((k : Int) + 1))) (vi ((k + 1 : Nat) : Int)) (by kernel_rfl) (vi_cast (by omega) (by omega)) (RU 1 [] [(5, I ((k + 1 : Nat) : Int))] (by kernel_rfl) rfl (ENDOPS (OUTN (BACK (k + 1, ys3) [0, 3, 5] 1 [] _ ⟨hl_y2, hd_y2, (hv0.trans (by simp_all [pIns, List.take_add_one]))⟩ (by simp) (by kernel_rfl) rfl rfl rfl)))))))))
   ·
    have h4 := bh4
    refine EXIT (PASS trivial (PASS trivial (OUT (JBACK (k) [0, 3, 5] 1 [] _ ⟨by first | omega | (dsimp only; simp at *; omega), by simp_all [pIns]⟩ (by kernel_rfl) rfl rfl rfl))))
  ·
   have h1 := bh1
   have h1 := of_decide_eq_false h1
   obtain rfl := drop_nil hk (by omega)
   refine QRU 7 5 12 [(18, B false)] (by kernel_rfl) rfl (QEND rfl (NEXT (IFF (by kernel_rfl) (EXIT (PASS trivial (PASS trivial (OUT (JBACK (k) [0, 3, 5] 1 [] _ ⟨by first | omega | (dsimp only; simp at *; omega), by simp_all [pIns]⟩ (by kernel_rfl) rfl rfl rfl))))))))
 rintro kk ⟨hkl, hke⟩
 try dsimp only at hkl hke
 refine SEQ (REGION [0, 1, 2, 3, 4, 5] rfl (OPC (BUILDS 116 0 #[] 21 116 (by kernel_rfl) (NL rfl) 127 [] (by kernel_rfl) pinL [] rfl (by simp only [maxLen]; omega) [] [] _ rfl (flatRep rfl) (fun a5 ha6 => (RU 2 [3, 4, 5] [(22, .v (.slice list_a list.length list_c)), (23, I (kk : Int))] (by kernel_rfl) rfl (OPC (CUTH 116 (.tmp 22) (.tmp 23) 24 116 (by kernel_rfl) (NL rfl) list_a list.length list_c .i64 (kk : Int) (by kernel_rfl) (by kernel_rfl) 127 pinL list (by kernel_rfl) (by kernel_rfl) (by omega) (by first | omega | (simp only [List.length_append, List.length_cons, List.length_nil, List.length_take, List.length_drop] at *; omega)) rfl (by omega) (fun a7 hsh8 => ?_))))))))
 have hsh8 : ∀ w, Rd pinL w list_a list → Rd pinL w a7 (list.take kk) := hsh8
 have hln9 : (list.take kk).length = kk := by first | (simp; done) | (simp; omega)
 refine CAST (d := 24) (.slice a7 kk list_c) (.slice a7 ((list.take kk).length) list_c) (by kernel_rfl) (by rw [hln9]) (OPC (APPENDR 116 (.tmp 21) (.tmp 24) 25 116 (by kernel_rfl) (NL rfl) (.slice a5 0 0) a7 ((list.take kk).length) list_c (by kernel_rfl) (by kernel_rfl) 127 (by kernel_rfl) (.agg #[vi 0, vi 0]) 16 (by kernel_rfl) rfl (by decide) 0 ([]) (list.take kk) _ rfl rfl (fun w hw => (hsh8 _ (hlist.fr hw.fr))) (by first | omega | (simp only [List.length_append, List.length_cons, List.length_nil, List.length_take, List.length_drop] at *; omega)) (by simp only [maxLen]; first | omega | (simp only [List.length_append, List.length_cons, List.length_nil, List.length_take, List.length_drop] at *; omega)) (fun a10 c11 hn12 => (RU 1 [] [(6, .v (.slice a10 ((([]) ++ (list.take kk)).length) c11))] (by kernel_rfl) rfl (ENDOPS (NEXT (SEQ (REGION [0, 1, 2, 3, 4] rfl (RU 2 [2, 3, 4] [(26, .v (.slice a10 ((([]) ++ (list.take kk)).length) c11)), (27, .v (.agg (pinE e).toArray))] (by kernel_rfl) rfl (OPC (BUILDS 116 1 #[(0, .tmp 27)] 28 116 (by kernel_rfl) (NL rfl) 127 [vi e.at', vi e.id] (by kernel_rfl) pinL [e] rfl (by simp only [maxLen]; omega) [] [] _ rfl (flatRep rfl) (fun a13 ha14 => (OPC (APPENDO 116 (.tmp 26) (.tmp 28) 29 116 (by kernel_rfl) (NL rfl) (.slice a10 ((([]) ++ (list.take kk)).length) c11) a13 1 1 (by kernel_rfl) (by kernel_rfl) ha14 127 (by kernel_rfl) pinL (.agg #[vi 0, vi 0]) 16 (by kernel_rfl) rfl (by decide) 0 0 (([]) ++ (list.take kk)) ([e]) _ rfl rfl (by first | omega | (simp only [List.length_append, List.length_cons, List.length_nil, List.length_take, List.length_drop] at *; omega)) (by simp only [maxLen]; first | omega | (simp only [List.length_append, List.length_cons, List.length_nil, List.length_take, List.length_drop] at *; omega)) (fun a15 c16 hn17 => ?_)))))))))))))))
 refine RU 1 [] [(6, .v (.slice a15 (((([]) ++ (list.take kk)) ++ ([e])).length) c16))] (by kernel_rfl) rfl (ENDOPS (NEXT (SEQ (REGION [0, 1, 2, 3, 4, 5] rfl (RU 3 [3, 4, 5] [(30, .v (.slice a15 (((([]) ++ (list.take kk)) ++ ([e])).length) c16)), (31, .v (.slice list_a list.length list_c)), (32, I (kk : Int))] (by kernel_rfl) rfl (OPC (CUTL 116 (.tmp 31) (.tmp 32) 33 116 (by kernel_rfl) (NL rfl) list_a list.length list_c .i64 (kk : Int) (by kernel_rfl) (by kernel_rfl) 127 pinL list (by kernel_rfl) (by kernel_rfl) (by omega) (by first | omega | (simp only [List.length_append, List.length_cons, List.length_nil, List.length_take, List.length_drop] at *; omega)) rfl (by omega) (fun a18 hsh19 => ?_))))))))
 have hsh19 : ∀ w, Rd pinL w list_a list → Rd pinL w a18 (list.drop kk) := hsh19
 have hln20 : (list.drop kk).length = list.length - kk := by first | (simp; done) | (simp; omega)
 refine CAST (d := 33) (.slice a18 (list.length - kk) (list_c - kk)) (.slice a18 ((list.drop kk).length) (list_c - kk)) (by kernel_rfl) (by rw [hln20]) (OPC (APPENDR 116 (.tmp 30) (.tmp 33) 34 116 (by kernel_rfl) (NL rfl) (.slice a15 (((([]) ++ (list.take kk)) ++ ([e])).length) c16) a18 ((list.drop kk).length) (list_c - kk) (by kernel_rfl) (by kernel_rfl) 127 (by kernel_rfl) (.agg #[vi 0, vi 0]) 16 (by kernel_rfl) rfl (by decide) 0 ((([]) ++ (list.take kk)) ++ ([e])) (list.drop kk) _ rfl rfl (fun w hw => (hsh19 _ (hlist.fr hw.fr))) (by first | omega | (simp only [List.length_append, List.length_cons, List.length_nil, List.length_take, List.length_drop] at *; omega)) (by simp only [maxLen]; first | omega | (simp only [List.length_append, List.length_cons, List.length_nil, List.length_take, List.length_drop] at *; omega)) (fun a21 c22 hn23 => (RU 1 [] [(4, .v (.slice a21 ((((([]) ++ (list.take kk)) ++ ([e])) ++ (list.drop kk)).length) c22))] (by kernel_rfl) rfl (ENDOPS (NEXT (RET ?_)))))))
 have efin : pIns list e = ((([]) ++ (list.take kk)) ++ ([e])) ++ (list.drop kk) := by rw [hke]; simp
 refine FIN (.slice a21 ((((([]) ++ (list.take kk)) ++ ([e])) ++ (list.drop kk)).length) c22) (by kernel_rfl) (a21, c22) ?_ [0] ?_
 · (rw [efin] <;> rfl)
 · (rw [efin] <;> rfl)

theorem sQueueOf_c (W : World) (r : Rules) (r_seats_a : Option Addr) (r_seats_c : Nat) (hr_seats : Rd intL W r_seats_a r.seats) (list : List Party) (list_a : Option Addr) (list_c : Nat) (hlist : Rd partyL W list_a list) (cabin : Int) (now : Int) (hb : list.length ≤ 1048576) : Spec Tryz.prog W [] 105 #[.agg #[.slice r_seats_a r.seats.length r_seats_c, vi r.tiers, vi r.room, vi r.size, vi r.period, vi r.window, vi r.rest, vi r.tries, vi r.crew], .slice list_a list.length list_c, vi cabin, vi now] (⟨HH, fun p => .slice p.1 ((queueOf r list cabin now).length) p.2, fun p => [slA 114 entryL (.slice p.1 (queueOf r list cabin now).length p.2) (queueOf r list cabin now)]⟩) := by
 refine ENTER0 (N := 45) (vs := [.agg #[.slice r_seats_a r.seats.length r_seats_c, vi r.tiers, vi r.room, vi r.size, vi r.period, vi r.window, vi r.rest, vi r.tries, vi r.crew], .slice list_a list.length list_c, vi cabin, vi now]) Tryz.func105 rfl rfl (NL rfl) ?_
 have hr_seats_len := hr_seats.len
 have hlist_len := hlist.len
 refine SEQ (REGION [0, 1] rfl (RUL 2 [] [(4, .p 0 0)] [(31, [.slice r_seats_a r.seats.length r_seats_c, vi r.tiers, vi r.room, vi r.size, vi r.period, vi r.window, vi r.rest, vi r.tries, vi r.crew])] (by kernel_rfl) rfl (ENDOPS (NEXT (SEQ (REGION [0, 1] rfl (OPC (BUILDS 69 0 #[] 13 69 (by kernel_rfl) (NL rfl) 114 [] (by kernel_rfl) entryL [] rfl (by simp only [maxLen]; omega) [] [] _ rfl (flatRep rfl) (fun a1 ha2 => (RU 1 [] [(9, .v (.slice a1 0 0))] (by kernel_rfl) rfl (ENDOPS (NEXT (SEQ (SEQ (REGION [0, 1, 2, 3] rfl (RU 4 [] [(10, I (wr ((list.length : Int) - 1)))] (by kernel_rfl) rfl (ENDOPS (NEXT (BLOCK (LOOP (ι := Int × (Option Addr) × Nat × (List Entry)) (fun j => [(1, .v (.slice list_a list.length list_c)), (2, I cabin), (3, I now), (4, .p 0 0), (9, .v (.slice j.2.1 j.2.2.2.length j.2.2.1)), (10, I j.1)]) (fun j => [(31, [.slice r_seats_a r.seats.length r_seats_c, vi r.tiers, vi r.room, vi r.size, vi r.period, vi r.window, vi r.rest, vi r.tries, vi r.crew])]) (fun j => [slA 114 entryL (.slice j.2.1 j.2.2.2.length j.2.2.1) j.2.2.2]) (fun j => -1 ≤ j.1 ∧ j.1 < (list.length : Int) ∧ (j.2.2.2.length : Int) + j.1 + 1 ≤ list.length ∧ j.2.2.2 = queueOf r (list.drop (j.1 + 1).toNat) cabin now) (fun j => (j.1 + 1).toNat) (wr ((list.length : Int) - 1), a1, 0, []) [1, 2, 3, 4, 9, 10] ⟨by dsimp only; rw [wr_of (by omega) (by omega)]; omega, by dsimp only; rw [wr_of (by omega) (by omega)]; omega, by dsimp only; rw [wr_of (by omega) (by omega)]; simp only [List.length_nil]; omega, by dsimp only; rw [wr_of (by omega) (by omega), show ((list.length : Int) - 1 + 1).toNat = list.length by omega]; simp [queueOf]⟩ (by kernel_rfl) rfl rfl ?_))))))))))))))))))))
 rintro ⟨z, oa, oc, out⟩ ⟨hz, hzl, hol, hoq⟩
 try dsimp only at hz hzl hol hoq
 have hzw : wr (z - 1) = z - 1 := wr_of (by omega) (by omega)
 refine SEQ (SEQ (REGION [0, 1] rfl (RU 2 [] [(18, B (decide (z ≥ 0)))] (by kernel_rfl) rfl (ENDOPS (NEXT (IF (decide (z ≥ 0)) (by kernel_rfl) (fun bh3 => ?_) (fun bh3 => ?_)))))))
 ·
  have h3 := bh3
  have h3 := of_decide_eq_true h3
  refine SKIP (NEXT (SEQ (BLOCK (SEQ (EXPORT (fun bs hbs => ?_))))))
  obtain ⟨b4, rfl⟩ := len1 hbs
  refine REGIONH (by kernel_rfl) 13 rfl [ptC b4 31 [.slice r_seats_a r.seats.length r_seats_c, vi r.tiers, vi r.room, vi r.size, vi r.period, vi r.window, vi r.rest, vi r.tries, vi r.crew], slA 114 entryL (.slice oa out.length oc) out] (HLOADE (i := 0) (js := [0, 0])  31 (.tmp 4) 22 31 (by kernel_rfl) (NL rfl) (some ⟨b4, 0, none⟩) 0 0 ([.slice r_seats_a r.seats.length r_seats_c, vi r.tiers, vi r.room, vi r.size, vi r.period, vi r.window, vi r.rest, vi r.tries, vi r.crew]) (.agg #[.slice r_seats_a r.seats.length r_seats_c, vi r.tiers, vi r.room, vi r.size, vi r.period, vi r.window, vi r.rest, vi r.tries, vi r.crew]) (by kernel_rfl) (fun w hw => ptC_elem (hw.own 0 rfl)) (by kernel_rfl) (by kernel_rfl) rfl (HPU (js := [0, 0]) 1 [(23, .v (.slice list_a list.length list_c))] (by kernel_rfl) (by kernel_rfl) rfl (HPU (js := [0, 0]) 2 [(24, I z)] (by kernel_rfl) (by kernel_rfl) rfl ?_)))
  obtain ⟨x5, hx6⟩ : ∃ y, list[z.toNat]? = some y := ⟨_, List.getElem?_eq_getElem (by omega)⟩
  refine HINDEX (i := 3) (js := [0, 0])  32 (.tmp 23) (.tmp 24) 25 0 (by kernel_rfl) (NL rfl) list_a list.length list_c .i64 z 54 10 (by kernel_rfl) (by kernel_rfl) (by kernel_rfl) (by kernel_rfl) (Rd.some hlist (by omega)) (by omega) (by omega) (by kernel_rfl) rfl (HLOADE (i := 4) (js := [0, 0])  54 (.tmp 25) 26 54 (by kernel_rfl) (NL rfl) list_a (z.toNat * 10) 0 (partyE x5) (.agg (partyE x5).toArray) (by kernel_rfl) (fun w hw => (hlist.fr hw.fr).flat hx6) (by kernel_rfl) (by kernel_rfl) rfl (HPU (js := [0, 0]) 5 [(27, I now)] (by kernel_rfl) (by kernel_rfl) rfl (HALL [6, 10] (by kernel_rfl) (by decide) ⟨?_, ?_⟩)))
  ·
   refine CALL 155 #[.agg #[.slice r_seats_a r.seats.length r_seats_c, vi r.tiers, vi r.room, vi r.size, vi r.period, vi r.window, vi r.rest, vi r.tries, vi r.crew], .agg #[vi x5.id, vi x5.cabin, vi x5.from', vi x5.size, vi x5.tier, vi x5.since, vi x5.turn, vi x5.state, vi x5.until', vi x5.asked], vi now] (some 28) (by kernel_rfl) [] [] _ rfl (RV (.tuple #[.agg #[vi ((entryOf r x5 now).level), vi ((entryOf r x5 now).turn), vi ((entryOf r x5 now).id), vi ((entryOf r x5 now).size)], .bool (entryOk r x5 now)])) (fun w hw => sEntryOf_c w r r_seats_a r_seats_c (hr_seats.fr hw.fr) x5 now) (NO rfl) ?_
   rintro ⟨⟩
   refine HKEEP (js := [0, 0]) rfl (HPU (js := [0, 0]) 7 [(21, .v (.tuple #[.agg #[vi ((entryOf r x5 now).level), vi ((entryOf r x5 now).turn), vi ((entryOf r x5 now).id), vi ((entryOf r x5 now).size)], .bool (entryOk r x5 now)]))] (by kernel_rfl) (by kernel_rfl) rfl (HPU (js := [0, 0]) 8 [(29, .v (.agg #[vi ((entryOf r x5 now).level), vi ((entryOf r x5 now).turn), vi ((entryOf r x5 now).id), vi ((entryOf r x5 now).size)]))] (by kernel_rfl) (by kernel_rfl) rfl (HPU (js := [0, 0]) 9 [(30, B (entryOk r x5 now))] (by kernel_rfl) (by kernel_rfl) rfl (HALL [10] (by kernel_rfl) (by decide) (RUO [(11, .p 0 0)] [(114, [vi 0, vi 0, vi 0, vi 0])] (by kernel_rfl) (HKEEP (js := [0, 0]) rfl (HALL [11] (by kernel_rfl) (by decide) (RUO [] [(114, [vi ((entryOf r x5 now).level), vi ((entryOf r x5 now).turn), vi ((entryOf r x5 now).id), vi ((entryOf r x5 now).size)])] (by kernel_rfl) (HKEEP (js := [0, 0]) rfl (HPU (js := [0, 0]) 12 [(12, B (entryOk r x5 now))] (by kernel_rfl) (by kernel_rfl) rfl (HEND (by kernel_rfl) (IMPORT (L0 := [(31, [.slice r_seats_a r.seats.length r_seats_c, vi r.tiers, vi r.room, vi r.size, vi r.period, vi r.window, vi r.rest, vi r.tries, vi r.crew])]) (L1 := [(114, [vi ((entryOf r x5 now).level), vi ((entryOf r x5 now).turn), vi ((entryOf r x5 now).id), vi ((entryOf r x5 now).size)])]) [b4] rfl [0] _ rfl [(1, .v (.slice list_a list.length list_c)), (2, I cabin), (3, I now), (4, .p 0 0), (9, .v (.slice oa out.length oc)), (10, I z), (11, .p 1 0), (12, B (entryOk r x5 now))] (by kernel_rfl) (by kernel_rfl) (NEXT (SEQ (REGION [0, 1, 2, 3, 4, 5, 6, 7, 8, 9] rfl ?_)))))))))))))))
   refine RU 2 [2, 3, 4, 5, 6, 7, 8, 9] [(32, B (entryOk r x5 now))] (by kernel_rfl) rfl (SPLIT (d := 32) (entryOk r x5 now) (by kernel_rfl) (fun bh7 => ?_) (fun bh7 => ?_))
   ·
    have h7 := bh7
    refine RU 2 [4, 5, 6, 7, 8, 9] [(33, .v (.slice list_a list.length list_c)), (34, I z)] (by kernel_rfl) rfl (OPC (INDEX 32 (.tmp 33) (.tmp 34) 35 0 (by kernel_rfl) (NL rfl) list_a list.length list_c .i64 z 54 10 (by kernel_rfl) (by kernel_rfl) (by kernel_rfl) (by kernel_rfl) (Rd.some hlist (by omega)) (by omega) (by omega) (RU 1 [6, 7, 8, 9] [(36, .e list_a (z.toNat * 10) 1)] (by kernel_rfl) rfl (OPC (LOADE 3 (.tmp 36) 37 3 (by kernel_rfl) (NL rfl) list_a (z.toNat * 10) 1 (partyE x5) (vi x5.cabin) (by kernel_rfl) (fun w hw => (hlist.fr hw.fr).flat hx6) (by kernel_rfl) (RU 3 [] [(40, B (x5.cabin == cabin))] (by kernel_rfl) rfl (ENDOPS (NEXT (IF (x5.cabin == cabin) (by kernel_rfl) (fun bh8 => ?_) (fun bh8 => ?_))))))))))
    ·
     have h8 := bh8
     have h8 := eq_of_beq h8
     refine REGION [0, 1, 2, 3] rfl (RU 2 [2, 3] [(41, .v (.slice oa out.length oc)), (42, .v (.agg #[vi ((entryOf r x5 now).level), vi ((entryOf r x5 now).turn), vi ((entryOf r x5 now).id), vi ((entryOf r x5 now).size)]))] (by kernel_rfl) rfl (FACT (out.length ≤ oc) (fun w hw => SlO.capE (hw.own 0 rfl)) (fun hcap9 => (OPC (CALL 156 #[.slice oa out.length oc, .agg #[vi ((entryOf r x5 now).level), vi ((entryOf r x5 now).turn), vi ((entryOf r x5 now).id), vi ((entryOf r x5 now).size)]] (some 43) (by kernel_rfl) [] [] _ rfl (⟨HH, fun p => .slice p.1 ((qIns out (entryOf r x5 now)).length) p.2, fun p => [slA 114 entryL (.slice p.1 (qIns out (entryOf r x5 now)).length p.2) (qIns out (entryOf r x5 now))]⟩) (fun w hw => sl7Put_c w out oa oc (hw.rdO 0 rfl) (entryOf r x5 now) (by first | assumption | omega | (dsimp only; omega) | (simp only [List.length_append, List.length_cons, List.length_nil] at *; omega)) (by first | assumption | omega | (dsimp only; omega) | (simp only [List.length_append, List.length_cons, List.length_nil] at *; omega))) (NO rfl) ?_)))))
     rintro ⟨a10, c11⟩
     have hr12 := qIns_len out (entryOf r x5 now)
     refine RU 1 [] [(9, .v (.slice a10 ((qIns out (entryOf r x5 now)).length) c11))] (by kernel_rfl) rfl (ENDOPS (OUTN (NEXT (REGION [0, 1, 2] rfl (RU 3 [] [(10, I (wr (z - 1)))] (by kernel_rfl) rfl (ENDOPS (BACK (wr (z - 1), a10, c11, qIns out (entryOf r x5 now)) [1, 2, 3, 4, 9, 10] 1 [1] _ ⟨by dsimp only; omega, by dsimp only; omega, by dsimp only; omega, by have hdd := drop_get hx6; have e1 : (wr (z - 1) + 1).toNat = z.toNat := (by omega); have e2 : (z + 1).toNat = z.toNat + 1 := (by omega); dsimp only; rw [e1, hdd]; rw [e2] at hoq; simp_all [queueOf]⟩ (by dsimp only; omega) (by kernel_rfl) rfl rfl rfl)))))))
    ·
     have h8 := bh8
     have h8 := ne_of_beq_false h8
     refine SKIP (OUTN (NEXT (REGION [0, 1, 2] rfl (RU 3 [] [(10, I (wr (z - 1)))] (by kernel_rfl) rfl (ENDOPS (BACK (wr (z - 1), oa, oc, out) [1, 2, 3, 4, 9, 10] 1 [0] _ ⟨by dsimp only; omega, by dsimp only; omega, by dsimp only; omega, by have hdd := drop_get hx6; have e1 : (wr (z - 1) + 1).toNat = z.toNat := (by omega); have e2 : (z + 1).toNat = z.toNat + 1 := (by omega); dsimp only; rw [e1, hdd]; rw [e2] at hoq; simp_all [queueOf]⟩ (by dsimp only; omega) (by kernel_rfl) rfl rfl rfl))))))
   ·
    have h7 := bh7
    refine RU 8 [] [(40, B false)] (by kernel_rfl) rfl (ENDOPS (NEXT (IFF (by kernel_rfl) (SKIP (OUTN (NEXT (REGION [0, 1, 2] rfl (RU 3 [] [(10, I (wr (z - 1)))] (by kernel_rfl) rfl (ENDOPS (BACK (wr (z - 1), oa, oc, out) [1, 2, 3, 4, 9, 10] 1 [0] _ ⟨by dsimp only; omega, by dsimp only; omega, by dsimp only; omega, by have hdd := drop_get hx6; have e1 : (wr (z - 1) + 1).toNat = z.toNat := (by omega); have e2 : (z + 1).toNat = z.toNat + 1 := (by omega); dsimp only; rw [e1, hdd]; rw [e2] at hoq; simp_all [queueOf]⟩ (by dsimp only; omega) (by kernel_rfl) rfl rfl rfl))))))))))
  ·
   refine RUO [(11, .p 0 0)] [(114, [vi 0, vi 0, vi 0, vi 0])] (by kernel_rfl) (HKEEP (js := [0, 0]) rfl (HALL [6] (by kernel_rfl) (by decide) (CALL 155 #[.agg #[.slice r_seats_a r.seats.length r_seats_c, vi r.tiers, vi r.room, vi r.size, vi r.period, vi r.window, vi r.rest, vi r.tries, vi r.crew], .agg #[vi x5.id, vi x5.cabin, vi x5.from', vi x5.size, vi x5.tier, vi x5.since, vi x5.turn, vi x5.state, vi x5.until', vi x5.asked], vi now] (some 28) (by kernel_rfl) [] [] _ rfl (RV (.tuple #[.agg #[vi ((entryOf r x5 now).level), vi ((entryOf r x5 now).turn), vi ((entryOf r x5 now).id), vi ((entryOf r x5 now).size)], .bool (entryOk r x5 now)])) (fun w hw => sEntryOf_c w r r_seats_a r_seats_c (hr_seats.fr hw.fr) x5 now) (NO rfl) ?_)))
   rintro ⟨⟩
   refine HKEEP (js := [0, 0]) rfl (HPU (js := [0, 0]) 7 [(21, .v (.tuple #[.agg #[vi ((entryOf r x5 now).level), vi ((entryOf r x5 now).turn), vi ((entryOf r x5 now).id), vi ((entryOf r x5 now).size)], .bool (entryOk r x5 now)]))] (by kernel_rfl) (by kernel_rfl) rfl (HPU (js := [0, 0]) 8 [(29, .v (.agg #[vi ((entryOf r x5 now).level), vi ((entryOf r x5 now).turn), vi ((entryOf r x5 now).id), vi ((entryOf r x5 now).size)]))] (by kernel_rfl) (by kernel_rfl) rfl (HPU (js := [0, 0]) 9 [(30, B (entryOk r x5 now))] (by kernel_rfl) (by kernel_rfl) rfl (HALL [11] (by kernel_rfl) (by decide) (RUO [] [(114, [vi ((entryOf r x5 now).level), vi ((entryOf r x5 now).turn), vi ((entryOf r x5 now).id), vi ((entryOf r x5 now).size)])] (by kernel_rfl) (HKEEP (js := [0, 0]) rfl (HPU (js := [0, 0]) 12 [(12, B (entryOk r x5 now))] (by kernel_rfl) (by kernel_rfl) rfl (HEND (by kernel_rfl) (IMPORT (L0 := [(31, [.slice r_seats_a r.seats.length r_seats_c, vi r.tiers, vi r.room, vi r.size, vi r.period, vi r.window, vi r.rest, vi r.tries, vi r.crew])]) (L1 := [(114, [vi ((entryOf r x5 now).level), vi ((entryOf r x5 now).turn), vi ((entryOf r x5 now).id), vi ((entryOf r x5 now).size)])]) [b4] rfl [0] _ rfl [(1, .v (.slice list_a list.length list_c)), (2, I cabin), (3, I now), (4, .p 0 0), (9, .v (.slice oa out.length oc)), (10, I z), (11, .p 1 0), (12, B (entryOk r x5 now))] (by kernel_rfl) (by kernel_rfl) (NEXT (SEQ (REGION [0, 1, 2, 3, 4, 5, 6, 7, 8, 9] rfl (RU 2 [2, 3, 4, 5, 6, 7, 8, 9] [(32, B (entryOk r x5 now))] (by kernel_rfl) rfl ?_)))))))))))))
   refine SPLIT (d := 32) (entryOk r x5 now) (by kernel_rfl) (fun bh13 => ?_) (fun bh13 => ?_)
   ·
    have h13 := bh13
    refine RU 2 [4, 5, 6, 7, 8, 9] [(33, .v (.slice list_a list.length list_c)), (34, I z)] (by kernel_rfl) rfl (OPC (INDEX 32 (.tmp 33) (.tmp 34) 35 0 (by kernel_rfl) (NL rfl) list_a list.length list_c .i64 z 54 10 (by kernel_rfl) (by kernel_rfl) (by kernel_rfl) (by kernel_rfl) (Rd.some hlist (by omega)) (by omega) (by omega) (RU 1 [6, 7, 8, 9] [(36, .e list_a (z.toNat * 10) 1)] (by kernel_rfl) rfl (OPC (LOADE 3 (.tmp 36) 37 3 (by kernel_rfl) (NL rfl) list_a (z.toNat * 10) 1 (partyE x5) (vi x5.cabin) (by kernel_rfl) (fun w hw => (hlist.fr hw.fr).flat hx6) (by kernel_rfl) (RU 3 [] [(40, B (x5.cabin == cabin))] (by kernel_rfl) rfl (ENDOPS (NEXT (IF (x5.cabin == cabin) (by kernel_rfl) (fun bh14 => ?_) (fun bh14 => ?_))))))))))
    ·
     have h14 := bh14
     have h14 := eq_of_beq h14
     refine REGION [0, 1, 2, 3] rfl (RU 2 [2, 3] [(41, .v (.slice oa out.length oc)), (42, .v (.agg #[vi ((entryOf r x5 now).level), vi ((entryOf r x5 now).turn), vi ((entryOf r x5 now).id), vi ((entryOf r x5 now).size)]))] (by kernel_rfl) rfl (FACT (out.length ≤ oc) (fun w hw => SlO.capE (hw.own 0 rfl)) (fun hcap15 => (OPC (CALL 156 #[.slice oa out.length oc, .agg #[vi ((entryOf r x5 now).level), vi ((entryOf r x5 now).turn), vi ((entryOf r x5 now).id), vi ((entryOf r x5 now).size)]] (some 43) (by kernel_rfl) [] [] _ rfl (⟨HH, fun p => .slice p.1 ((qIns out (entryOf r x5 now)).length) p.2, fun p => [slA 114 entryL (.slice p.1 (qIns out (entryOf r x5 now)).length p.2) (qIns out (entryOf r x5 now))]⟩) (fun w hw => sl7Put_c w out oa oc (hw.rdO 0 rfl) (entryOf r x5 now) (by first | assumption | omega | (dsimp only; omega) | (simp only [List.length_append, List.length_cons, List.length_nil] at *; omega)) (by first | assumption | omega | (dsimp only; omega) | (simp only [List.length_append, List.length_cons, List.length_nil] at *; omega))) (NO rfl) ?_)))))
     rintro ⟨a16, c17⟩
     have hr18 := qIns_len out (entryOf r x5 now)
     refine RU 1 [] [(9, .v (.slice a16 ((qIns out (entryOf r x5 now)).length) c17))] (by kernel_rfl) rfl (ENDOPS (OUTN (NEXT (REGION [0, 1, 2] rfl (RU 3 [] [(10, I (wr (z - 1)))] (by kernel_rfl) rfl (ENDOPS (BACK (wr (z - 1), a16, c17, qIns out (entryOf r x5 now)) [1, 2, 3, 4, 9, 10] 1 [1] _ ⟨by dsimp only; omega, by dsimp only; omega, by dsimp only; omega, by have hdd := drop_get hx6; have e1 : (wr (z - 1) + 1).toNat = z.toNat := (by omega); have e2 : (z + 1).toNat = z.toNat + 1 := (by omega); dsimp only; rw [e1, hdd]; rw [e2] at hoq; simp_all [queueOf]⟩ (by dsimp only; omega) (by kernel_rfl) rfl rfl rfl)))))))
    ·
     have h14 := bh14
     have h14 := ne_of_beq_false h14
     refine SKIP (OUTN (NEXT (REGION [0, 1, 2] rfl (RU 3 [] [(10, I (wr (z - 1)))] (by kernel_rfl) rfl (ENDOPS (BACK (wr (z - 1), oa, oc, out) [1, 2, 3, 4, 9, 10] 1 [0] _ ⟨by dsimp only; omega, by dsimp only; omega, by dsimp only; omega, by have hdd := drop_get hx6; have e1 : (wr (z - 1) + 1).toNat = z.toNat := (by omega); have e2 : (z + 1).toNat = z.toNat + 1 := (by omega); dsimp only; rw [e1, hdd]; rw [e2] at hoq; simp_all [queueOf]⟩ (by dsimp only; omega) (by kernel_rfl) rfl rfl rfl))))))
   ·
    have h13 := bh13
    refine RU 8 [] [(40, B false)] (by kernel_rfl) rfl (ENDOPS (NEXT (IFF (by kernel_rfl) (SKIP (OUTN (NEXT (REGION [0, 1, 2] rfl (RU 3 [] [(10, I (wr (z - 1)))] (by kernel_rfl) rfl (ENDOPS (BACK (wr (z - 1), oa, oc, out) [1, 2, 3, 4, 9, 10] 1 [0] _ ⟨by dsimp only; omega, by dsimp only; omega, by dsimp only; omega, by have hdd := drop_get hx6; have e1 : (wr (z - 1) + 1).toNat = z.toNat := (by omega); have e2 : (z + 1).toNat = z.toNat + 1 := (by omega); dsimp only; rw [e1, hdd]; rw [e2] at hoq; simp_all [queueOf]⟩ (by dsimp only; omega) (by kernel_rfl) rfl rfl rfl))))))))))
 ·
  have h3 := bh3
  have h3 := of_decide_eq_false h3
  refine EXIT (PASS trivial (PASS trivial (OUT (NEXT (SEQ (REGION [0, 1] rfl (RU 2 [] [(8, .v (.slice oa out.length oc))] (by kernel_rfl) rfl (ENDOPS (NEXT (RET ?_))))))))))
  have efin : queueOf r list cabin now = out := by rw [hoq, show (z + 1).toNat = 0 by omega]; rfl
  refine FIN (.slice oa out.length oc) (by kernel_rfl) (oa, oc) ?_ [0] ?_
  · (rw [efin] <;> rfl)
  · (rw [efin] <;> rfl)

theorem sPinsIn_c (W : World) (list : List Party) (list_a : Option Addr) (list_c : Nat) (hlist : Rd partyL W list_a list) (cabin : Int) (hb : list.length ≤ 1048576) : Spec Tryz.prog W [] 108 #[.slice list_a list.length list_c, vi cabin] (⟨HH, fun p => .slice p.1 ((pinsGo list cabin []).length) p.2, fun p => [slA 127 pinL (.slice p.1 (pinsGo list cabin []).length p.2) (pinsGo list cabin [])]⟩) := by
 refine ENTER0 (N := 43) (vs := [.slice list_a list.length list_c, vi cabin]) Tryz.func108 rfl rfl (NL rfl) ?_
 have hlist_len := hlist.len
 refine SEQ (REGION [0] rfl (RU 1 [] [] (by kernel_rfl) rfl (ENDOPS (NEXT (SEQ (REGION [0, 1] rfl (OPC (BUILDS 116 0 #[] 7 116 (by kernel_rfl) (NL rfl) 127 [] (by kernel_rfl) pinL [] rfl (by simp only [maxLen]; omega) [] [] _ rfl (flatRep rfl) (fun a1 ha2 => (RU 1 [] [(5, .v (.slice a1 0 0))] (by kernel_rfl) rfl (ENDOPS (NEXT (SEQ (SEQ (REGION [0] rfl (RU 1 [] [(6, I 0)] (by kernel_rfl) rfl (ENDOPS (NEXT (BLOCK (LOOP (ι := Nat × (List Party) × (Option Addr) × Nat × (List Pin)) (fun j => [(0, .v (.slice list_a list.length list_c)), (1, I cabin), (5, .v (.slice j.2.2.1 j.2.2.2.2.length j.2.2.2.1)), (6, I (j.1 : Int))]) (fun j => []) (fun j => [slA 127 pinL (.slice j.2.2.1 j.2.2.2.2.length j.2.2.2.1) j.2.2.2.2]) (fun j => j.1 + j.2.1.length = list.length ∧ list.drop j.1 = j.2.1 ∧ j.2.2.2.2.length ≤ j.1 ∧ pinsGo list cabin [] = pinsGo j.2.1 cabin j.2.2.2.2) (fun j => j.2.1.length) (0, list, a1, 0, []) [0, 1, 5, 6] ⟨by simp, rfl, by simp, rfl⟩ (by kernel_rfl) rfl rfl ?_))))))))))))))))))))
 rintro ⟨k, ys, oa, oc, out⟩ ⟨hk, hd, hv0, hv1⟩
 try dsimp only at hk hd hv0 hv1
 refine SEQ (SEQ (REGION [0, 1, 2, 3] rfl (RU 4 [] [(11, B (decide ((k : Int) < (list.length : Int))))] (by kernel_rfl) rfl (ENDOPS (NEXT (IF (decide ((k : Int) < (list.length : Int))) (by kernel_rfl) (fun bh3 => ?_) (fun bh3 => ?_)))))))
 ·
  have h3 := bh3
  have h3 := of_decide_eq_true h3
  obtain ⟨y4, ys5, rfl, hx_y4, hd_y4, hl_y4⟩ := drop_cons hd hk (by omega)
  refine SKIP (NEXT (SEQ (BLOCK (SEQ (REGION [0, 1, 2, 3, 4, 5, 6, 7, 8, 9, 10, 11, 12, 13, 14] rfl (RU 2 [2, 3, 4, 5, 6, 7, 8, 9, 10, 11, 12, 13, 14] [(14, .v (.slice list_a list.length list_c)), (15, I (k : Int))] (by kernel_rfl) rfl (OPC (INDEX 32 (.tmp 14) (.tmp 15) 16 0 (by kernel_rfl) (NL rfl) list_a list.length list_c .i64 (k : Int) 54 10 (by kernel_rfl) (by kernel_rfl) (by kernel_rfl) (by kernel_rfl) (Rd.some hlist (by omega)) (by omega) (by omega) (RU 1 [4, 5, 6, 7, 8, 9, 10, 11, 12, 13, 14] [(17, .e list_a (k * 10) 7)] (by kernel_rfl) rfl (OPC (LOADE 3 (.tmp 17) 18 3 (by kernel_rfl) (NL rfl) list_a (k * 10) 7 (partyE y4) (vi y4.state) (by kernel_rfl) (fun w hw => (hlist.fr hw.fr).flat hx_y4) (by kernel_rfl) (RU 2 [7, 8, 9, 10, 11, 12, 13, 14] [(20, B (y4.state == 2))] (by kernel_rfl) rfl (SPLIT (d := 20) (y4.state == 2) (by kernel_rfl) (fun bh6 => ?_) (fun bh6 => ?_))))))))))))))
  ·
   have h6 := bh6
   have h6 := eq_of_beq h6
   refine RU 2 [9, 10, 11, 12, 13, 14] [(21, .v (.slice list_a list.length list_c)), (22, I (k : Int))] (by kernel_rfl) rfl (OPC (INDEX 32 (.tmp 21) (.tmp 22) 23 0 (by kernel_rfl) (NL rfl) list_a list.length list_c .i64 (k : Int) 54 10 (by kernel_rfl) (by kernel_rfl) (by kernel_rfl) (by kernel_rfl) (Rd.some hlist (by omega)) (by omega) (by omega) (RU 1 [11, 12, 13, 14] [(24, .e list_a (k * 10) 1)] (by kernel_rfl) rfl (OPC (LOADE 3 (.tmp 24) 25 3 (by kernel_rfl) (NL rfl) list_a (k * 10) 1 (partyE y4) (vi y4.cabin) (by kernel_rfl) (fun w hw => (hlist.fr hw.fr).flat hx_y4) (by kernel_rfl) (RU 3 [] [(28, B (y4.cabin == cabin))] (by kernel_rfl) rfl (ENDOPS (NEXT (IF (y4.cabin == cabin) (by kernel_rfl) (fun bh7 => ?_) (fun bh7 => ?_))))))))))
   ·
    have h7 := bh7
    have h7 := eq_of_beq h7
    refine REGIONH (by kernel_rfl) 14 rfl [slA 127 pinL (.slice oa out.length oc) out] (HPU (js := [0]) 0 [(29, .v (.slice oa out.length oc))] (by kernel_rfl) (by kernel_rfl) rfl (HPU (js := [0]) 1 [(30, .v (.slice list_a list.length list_c))] (by kernel_rfl) (by kernel_rfl) rfl (HPU (js := [0]) 2 [(31, I (k : Int))] (by kernel_rfl) (by kernel_rfl) rfl (HINDEX (i := 3) (js := [0])  32 (.tmp 30) (.tmp 31) 32 0 (by kernel_rfl) (NL rfl) list_a list.length list_c .i64 (k : Int) 54 10 (by kernel_rfl) (by kernel_rfl) (by kernel_rfl) (by kernel_rfl) (Rd.some hlist (by omega)) (by omega) (by omega) (by kernel_rfl) rfl (HPU (js := [0]) 4 [(33, .e list_a (k * 10) 8)] (by kernel_rfl) (by kernel_rfl) rfl (HLOADE (i := 5) (js := [0])  3 (.tmp 33) 34 3 (by kernel_rfl) (NL rfl) list_a (k * 10) 8 (partyE y4) (vi y4.until') (by kernel_rfl) (fun w hw => (hlist.fr hw.fr).flat hx_y4) (by kernel_rfl) (by kernel_rfl) rfl (HPU (js := [0]) 6 [(35, .v (.slice list_a list.length list_c))] (by kernel_rfl) (by kernel_rfl) rfl (HPU (js := [0]) 7 [(36, I (k : Int))] (by kernel_rfl) (by kernel_rfl) rfl (HINDEX (i := 8) (js := [0])  32 (.tmp 35) (.tmp 36) 37 0 (by kernel_rfl) (NL rfl) list_a list.length list_c .i64 (k : Int) 54 10 (by kernel_rfl) (by kernel_rfl) (by kernel_rfl) (by kernel_rfl) (Rd.some hlist (by omega)) (by omega) (by omega) (by kernel_rfl) rfl (HPU (js := [0]) 9 [(38, .e list_a (k * 10) 0)] (by kernel_rfl) (by kernel_rfl) rfl (HLOADE (i := 10) (js := [0])  3 (.tmp 38) 39 3 (by kernel_rfl) (NL rfl) list_a (k * 10) 0 (partyE y4) (vi y4.id) (by kernel_rfl) (fun w hw => (hlist.fr hw.fr).flat hx_y4) (by kernel_rfl) (by kernel_rfl) rfl ?_)))))))))))
    refine HPU (js := [0]) 11 [(40, .v (.agg #[vi y4.until', vi y4.id]))] (by kernel_rfl) (by kernel_rfl) rfl (HALL [12] (by kernel_rfl) (by decide) (FACT (out.length ≤ oc) (fun w hw => SlO.capE (hw.own 0 rfl)) (fun hcap8 => (CALL 158 #[.slice oa out.length oc, .agg #[vi y4.until', vi y4.id]] (some 41) (by kernel_rfl) [] [] _ rfl (⟨HH, fun p => .slice p.1 ((pIns out (⟨y4.until', y4.id⟩ : Pin)).length) p.2, fun p => [slA 127 pinL (.slice p.1 (pIns out (⟨y4.until', y4.id⟩ : Pin)).length p.2) (pIns out (⟨y4.until', y4.id⟩ : Pin))]⟩) (fun w hw => sl9Put_c w out oa oc (hw.rdO 0 rfl) (⟨y4.until', y4.id⟩ : Pin) (by first | assumption | omega | (dsimp only; omega) | (simp only [List.length_append, List.length_cons, List.length_nil] at *; omega)) (by first | assumption | omega | (dsimp only; omega) | (simp only [List.length_append, List.length_cons, List.length_nil] at *; omega))) (NO rfl) ?_))))
    rintro ⟨a9, c10⟩
    have hr11 := pIns_len out (⟨y4.until', y4.id⟩ : Pin)
    refine HKEEP (js := [0]) rfl (HPU (js := [0]) 13 [(5, .v (.slice a9 ((pIns out (⟨y4.until', y4.id⟩ : Pin)).length) c10))] (by kernel_rfl) (by kernel_rfl) rfl (HEND (by kernel_rfl) (OUTN (NEXT (REGION [0, 1, 2] rfl (RU 2 [2] [(13, I (wr ((k : Int) + 1)))] (by kernel_rfl) rfl (CAST (d := 13) (vi (wr ((k : Int) + 1))) (vi ((k + 1 : Nat) : Int)) (by kernel_rfl) (vi_cast (by omega) (by omega)) (RU 1 [] [(6, I ((k + 1 : Nat) : Int))] (by kernel_rfl) rfl (ENDOPS (BACK (k + 1, ys5, a9, c10, pIns out (⟨y4.until', y4.id⟩ : Pin)) [0, 1, 5, 6] 0 [1] _ ⟨hl_y4, hd_y4, (by first | omega | (dsimp only; omega) | (simp only [pIns_len]; omega)), (hv1.trans (by simp_all [pinsGo]))⟩ (by simp) (by kernel_rfl) rfl rfl rfl))))))))))
   ·
    have h7 := bh7
    have h7 := ne_of_beq_false h7
    refine SKIP (OUTN (NEXT (REGION [0, 1, 2] rfl (RU 2 [2] [(13, I (wr ((k : Int) + 1)))] (by kernel_rfl) rfl (CAST (d := 13) (vi (wr ((k : Int) + 1))) (vi ((k + 1 : Nat) : Int)) (by kernel_rfl) (vi_cast (by omega) (by omega)) (RU 1 [] [(6, I ((k + 1 : Nat) : Int))] (by kernel_rfl) rfl (ENDOPS (BACK (k + 1, ys5, oa, oc, out) [0, 1, 5, 6] 0 [0] _ ⟨hl_y4, hd_y4, (by first | omega | (dsimp only; omega) | (simp only [pIns_len]; omega)), (hv1.trans (by simp_all [pinsGo]))⟩ (by simp) (by kernel_rfl) rfl rfl rfl))))))))
  ·
   have h6 := bh6
   have h6 := ne_of_beq_false h6
   refine RU 8 [] [(28, B false)] (by kernel_rfl) rfl (ENDOPS (NEXT (IFF (by kernel_rfl) (SKIP (OUTN (NEXT (REGION [0, 1, 2] rfl (RU 2 [2] [(13, I (wr ((k : Int) + 1)))] (by kernel_rfl) rfl (CAST (d := 13) (vi (wr ((k : Int) + 1))) (vi ((k + 1 : Nat) : Int)) (by kernel_rfl) (vi_cast (by omega) (by omega)) (RU 1 [] [(6, I ((k + 1 : Nat) : Int))] (by kernel_rfl) rfl (ENDOPS (BACK (k + 1, ys5, oa, oc, out) [0, 1, 5, 6] 0 [0] _ ⟨hl_y4, hd_y4, (by first | omega | (dsimp only; omega) | (simp only [pIns_len]; omega)), (hv1.trans (by simp_all [pinsGo]))⟩ (by simp) (by kernel_rfl) rfl rfl rfl))))))))))))
 ·
  have h3 := bh3
  have h3 := of_decide_eq_false h3
  obtain rfl := drop_nil hk (by omega)
  refine EXIT (PASS trivial (PASS trivial (OUT (NEXT (SEQ (REGION [0, 1] rfl (RU 2 [] [(4, .v (.slice oa out.length oc))] (by kernel_rfl) rfl (ENDOPS (NEXT (RET ?_))))))))))
  have efin : pinsGo list cabin [] = out := by rw [hv1]; rfl
  refine FIN (.slice oa out.length oc) (by kernel_rfl) (oa, oc) ?_ [0] ?_
  · (rw [efin] <;> rfl)
  · (rw [efin] <;> rfl)

theorem sl9All_c (W : World) (wh : Wheel) (wh_spoke_a : Option Addr) (wh_spoke_c : Nat) (hwh_spoke : Rd (sl 127 pinL) W wh_spoke_a wh.spoke) (hb : wh.spoke.flatten.length ≤ 4194304) : Spec Tryz.prog W [] 157 #[.agg #[.slice wh_spoke_a wh.spoke.length wh_spoke_c]] (⟨HH, fun p => .slice p.1 wh.spoke.flatten.length p.2, fun p => [slA 127 pinL (.slice p.1 wh.spoke.flatten.length p.2) wh.spoke.flatten]⟩) := by
 refine ENTER0 (N := 21) (vs := [.agg #[.slice wh_spoke_a wh.spoke.length wh_spoke_c]]) Tryz.func157 rfl rfl (NL rfl) ?_
 have hwh_spoke_len := hwh_spoke.len
 refine SEQ (REGION [0, 1] rfl (RUL 2 [] [(1, .p 0 0)] [(72, [.slice wh_spoke_a wh.spoke.length wh_spoke_c])] (by kernel_rfl) rfl (ENDOPS (NEXT (SEQ (REGION [0, 1] rfl (OPC (BUILDS 116 0 #[] 5 116 (by kernel_rfl) (NL rfl) 127 [] (by kernel_rfl) pinL [] rfl (by simp only [maxLen]; omega) [] [] _ rfl (flatRep rfl) (fun a1 ha2 => (RU 1 [] [(3, .v (.slice a1 0 0))] (by kernel_rfl) rfl (ENDOPS (NEXT (SEQ (SEQ (REGION [0] rfl (RU 1 [] [(4, I 0)] (by kernel_rfl) rfl (ENDOPS (NEXT (BLOCK (LOOP (ι := Nat × (List (List Pin)) × (Option Addr) × Nat × (List Pin)) (fun j => [(1, .p 0 0), (3, .v (.slice j.2.2.1 j.2.2.2.2.length j.2.2.2.1)), (4, I (j.1 : Int))]) (fun j => [(72, [.slice wh_spoke_a wh.spoke.length wh_spoke_c])]) (fun j => [slA 127 pinL (.slice j.2.2.1 j.2.2.2.2.length j.2.2.2.1) j.2.2.2.2]) (fun j => j.1 + j.2.1.length = wh.spoke.length ∧ wh.spoke.drop j.1 = j.2.1 ∧ j.2.2.2.2 ++ j.2.1.flatten = wh.spoke.flatten ∧ j.2.2.2.2.length + j.2.1.flatten.length = wh.spoke.flatten.length) (fun j => j.2.1.length) (0, wh.spoke, a1, 0, []) [1, 3, 4] ⟨by simp, rfl, rfl, by simp⟩ (by kernel_rfl) rfl rfl ?_))))))))))))))))))))
 rintro ⟨k, ys, oa, oc, out⟩ ⟨hk, hd, hv0, hv1⟩
 try dsimp only at hk hd hv0 hv1
 refine SEQ (SEQ (REGION [0, 1, 2, 3, 4] rfl (RU 5 [] [(10, B (decide ((k : Int) < (wh.spoke.length : Int))))] (by kernel_rfl) rfl (ENDOPS (NEXT (IF (decide ((k : Int) < (wh.spoke.length : Int))) (by kernel_rfl) (fun bh3 => ?_) (fun bh3 => ?_)))))))
 ·
  have h3 := bh3
  have h3 := of_decide_eq_true h3
  obtain ⟨y4, ys5, rfl, hx_y4, hd_y4, hl_y4⟩ := drop_cons hd hk (by omega)
  have hfy := hv1; simp only [List.flatten_cons, List.length_append] at hfy
  refine SKIP (NEXT (SEQ (BLOCK (REGION [0, 1, 2, 3, 4, 5, 6, 7] rfl (RU 4 [4, 5, 6, 7] [(13, .v (.slice oa out.length oc)), (15, .v (.slice wh_spoke_a wh.spoke.length wh_spoke_c)), (16, I (k : Int))] (by kernel_rfl) rfl ?_)))))
  obtain ⟨a6, c7, hel9, hi8, hi8_cap⟩ := sl_view hwh_spoke hx_y4
  have hi8_len := hi8.len
  refine OPC (INDEX 70 (.tmp 15) (.tmp 16) 17 0 (by kernel_rfl) (NL rfl) wh_spoke_a wh.spoke.length wh_spoke_c .i64 (k : Int) 116 1 (by kernel_rfl) (by kernel_rfl) (by kernel_rfl) (by kernel_rfl) (Rd.some hwh_spoke (by omega)) (by omega) (by omega) (OPC (LOADE 116 (.tmp 17) 18 116 (by kernel_rfl) (NL rfl) wh_spoke_a (k * 1) 0 ([.slice a6 y4.length c7]) (.slice a6 y4.length c7) (by kernel_rfl) (fun w hw => hel9.fr hw.fr) (by kernel_rfl) (OPC (APPENDR 116 (.tmp 13) (.tmp 18) 19 116 (by kernel_rfl) (NL rfl) (.slice oa out.length oc) a6 y4.length c7 (by kernel_rfl) (by kernel_rfl) 127 (by kernel_rfl) (.agg #[vi 0, vi 0]) 16 (by kernel_rfl) rfl (by decide) 0 out y4 _ rfl rfl (fun w hw => (hi8.fr hw.fr)) (by first | omega | (simp only [List.length_append, List.length_cons, List.length_nil, List.length_take, List.length_drop] at *; omega)) (by simp only [maxLen]; first | omega | (simp only [List.length_append, List.length_cons, List.length_nil, List.length_take, List.length_drop] at *; omega)) (fun a10 c11 hn12 => (RU 1 [] [(3, .v (.slice a10 ((out ++ y4).length) c11))] (by kernel_rfl) rfl (ENDOPS (OUTN (NEXT (REGION [0, 1, 2] rfl (RU 2 [2] [(12, I (wr ((k : Int) + 1)))] (by kernel_rfl) rfl (CAST (d := 12) (vi (wr ((k : Int) + 1))) (vi ((k + 1 : Nat) : Int)) (by kernel_rfl) (vi_cast (by omega) (by omega)) (RU 1 [] [(4, I ((k + 1 : Nat) : Int))] (by kernel_rfl) rfl (ENDOPS (BACK (k + 1, ys5, a10, c11, out ++ y4) [1, 3, 4] 1 [0] _ ⟨hl_y4, hd_y4, (by simpa using hv0), (by simp only [List.length_append] at *; omega)⟩ (by simp) (by kernel_rfl) rfl rfl rfl))))))))))))))))
 ·
  have h3 := bh3
  have h3 := of_decide_eq_false h3
  obtain rfl := drop_nil hk (by omega)
  refine EXIT (PASS trivial (PASS trivial (OUT (NEXT (SEQ (REGION [0, 1] rfl (RU 2 [] [(2, .v (.slice oa out.length oc))] (by kernel_rfl) rfl (ENDOPS (NEXT (RET ?_))))))))))
  have efin : wh.spoke.flatten = out := by simpa using hv0.symm
  refine FIN (.slice oa out.length oc) (by kernel_rfl) (oa, oc) ?_ [0] ?_
  · (rw [efin] <;> rfl)
  · (rw [efin] <;> rfl)

theorem sWheelOk_c (W : World) (wh : Wheel) (wh_spoke_a : Option Addr) (wh_spoke_c : Nat) (hwh_spoke : Rd (sl 127 pinL) W wh_spoke_a wh.spoke) (hb : wh.spoke.flatten.length ≤ 4194304) : Spec Tryz.prog W [] 154 #[.agg #[.slice wh_spoke_a wh.spoke.length wh_spoke_c]] (RV (.bool (wheelOk wh))) := by
 refine ENTER0 (N := 111) (vs := [.agg #[.slice wh_spoke_a wh.spoke.length wh_spoke_c]]) Tryz.func154 rfl rfl (NL rfl) ?_
 have hwh_spoke_len := hwh_spoke.len
 refine SEQ (REGION [0, 1] rfl (RUL 2 [] [(1, .p 0 0)] [(72, [.slice wh_spoke_a wh.spoke.length wh_spoke_c])] (by kernel_rfl) rfl (ENDOPS (NEXT (SEQ (REGION [0, 1, 2] rfl (RU 1 [1, 2] [(8, .v (.agg #[.slice wh_spoke_a wh.spoke.length wh_spoke_c]))] (by kernel_rfl) rfl (OPC (CALL 157 #[.agg #[.slice wh_spoke_a wh.spoke.length wh_spoke_c]] (some 9) (by kernel_rfl) [] [] _ rfl (⟨HH, fun p => .slice p.1 wh.spoke.flatten.length p.2, fun p => [slA 127 pinL (.slice p.1 wh.spoke.flatten.length p.2) wh.spoke.flatten]⟩) (fun w hw => sl9All_c w wh wh_spoke_a wh_spoke_c (hwh_spoke.fr hw.fr) (by first | assumption | omega | (dsimp only; omega) | (simp only [List.length_append, List.length_cons, List.length_nil] at *; omega))) (NO rfl) ?_)))))))))
 rintro ⟨a1, c2⟩
 refine RU 1 [] [(3, .v (.slice a1 wh.spoke.flatten.length c2))] (by kernel_rfl) rfl (ENDOPS (NEXT (SEQ (SEQ (REGION [0, 1, 2, 3, 4, 5, 6, 7, 8] rfl (RU 5 [5, 6, 7, 8] [(14, B ((wh.spoke.length : Int) != 9))] (by kernel_rfl) rfl (SPLIT (d := 14) ((wh.spoke.length : Int) != 9) (by kernel_rfl) (fun bh3 => ?_) (fun bh3 => ?_))))))))
 ·
  have h3 := bh3
  have h3 := bne_iff_ne.1 h3
  refine RU 4 [] [(18, B true)] (by kernel_rfl) rfl (ENDOPS (NEXT (IFT (by kernel_rfl) (SEQ (REGION [0] rfl (RU 1 [] [(2, B false)] (by kernel_rfl) rfl (ENDOPS (NEXT (RET (PASS trivial (FIN (.bool false) (by kernel_rfl) () ?_ [] ?_)))))))))))
  · (first | (exact congrArg Value.bool (wheelOk_t ⟨by omega, by omega, fun z hz => hvp z (by rw [hkk, List.take_length]; exact hz), ids_nodup (by rw [hkk] at hvi; exact hvi), fun i l hl => hv0 i l (by have := (List.getElem?_eq_some_iff.1 hl).1; simp only [List.length_nil] at hk; omega) hl⟩).symm) | (refine congrArg Value.bool (wheelOk_f fun hw9 => ?_).symm; obtain ⟨w1, w2, w3, w4, w5⟩ := hw9; first | omega))
  · rfl
 ·
  have h3 := bh3
  have h3 := bneF h3
  refine RU 4 [] [(18, B (decide ((wh.spoke.flatten.length : Int) > 10)))] (by kernel_rfl) rfl (ENDOPS (NEXT (IF (decide ((wh.spoke.flatten.length : Int) > 10)) (by kernel_rfl) (fun bh4 => ?_) (fun bh4 => ?_))))
  ·
   have h4 := bh4
   have h4 := of_decide_eq_true h4
   refine SEQ (REGION [0] rfl (RU 1 [] [(2, B false)] (by kernel_rfl) rfl (ENDOPS (NEXT (RET (PASS trivial (FIN (.bool false) (by kernel_rfl) () ?_ [] ?_)))))))
   · (first | (exact congrArg Value.bool (wheelOk_t ⟨by omega, by omega, fun z hz => hvp z (by rw [hkk, List.take_length]; exact hz), ids_nodup (by rw [hkk] at hvi; exact hvi), fun i l hl => hv0 i l (by have := (List.getElem?_eq_some_iff.1 hl).1; simp only [List.length_nil] at hk; omega) hl⟩).symm) | (refine congrArg Value.bool (wheelOk_f fun hw9 => ?_).symm; obtain ⟨w1, w2, w3, w4, w5⟩ := hw9; first | omega))
   · rfl
  ·
   have h4 := bh4
   have h4 := of_decide_eq_false h4
   refine SKIP (NEXT (SEQ (SEQ (REGION [0] rfl (RU 1 [] [(4, I 0)] (by kernel_rfl) rfl (ENDOPS (NEXT (BLOCK (LOOP (ι := Nat × (List Pin)) (fun j => [(1, .p 0 0), (3, .v (.slice a1 wh.spoke.flatten.length c2)), (4, I (j.1 : Int))]) (fun j => [(72, [.slice wh_spoke_a wh.spoke.length wh_spoke_c])]) (fun j => [slA 127 pinL (.slice a1 wh.spoke.flatten.length c2) wh.spoke.flatten]) (fun j => j.1 + j.2.length = wh.spoke.flatten.length ∧ wh.spoke.flatten.drop j.1 = j.2 ∧ (∀ x ∈ wh.spoke.flatten.take j.1, PinR x) ∧ Ids wh.spoke.flatten j.1) (fun j => j.2.length) (0, wh.spoke.flatten) [1, 3, 4] ⟨by simp, rfl, by simp, ids_zero _⟩ (by kernel_rfl) rfl rfl ?_)))))))))
   rintro ⟨k, ys⟩ ⟨hk, hd, hv0, hv1⟩
   try dsimp only at hk hd hv0 hv1
   refine SEQ (SEQ (REGION [0, 1, 2, 3] rfl (RU 4 [] [(22, B (decide ((k : Int) < (wh.spoke.flatten.length : Int))))] (by kernel_rfl) rfl (ENDOPS (NEXT (IF (decide ((k : Int) < (wh.spoke.flatten.length : Int))) (by kernel_rfl) (fun bh5 => ?_) (fun bh5 => ?_)))))))
   ·
    have h5 := bh5
    have h5 := of_decide_eq_true h5
    obtain ⟨y6, ys7, rfl, hx_y6, hd_y6, hl_y6⟩ := drop_cons hd hk (by omega)
    refine SKIP (NEXT (SEQ (BLOCK (SEQ (SEQ (REGION [0, 1, 2, 3, 4, 5, 6, 7, 8, 9, 10, 11, 12, 13, 14, 15] rfl (RU 2 [2, 3, 4, 5, 6, 7, 8, 9, 10, 11, 12, 13, 14, 15] [(25, .v (.slice a1 wh.spoke.flatten.length c2)), (26, I (k : Int))] (by kernel_rfl) rfl (FACT (a1.isSome = true) (fun w hw => SlO.isS (hw.own 0 rfl) (by first | omega | (dsimp only; omega))) (fun hs8 => (OPC (INDEX 116 (.tmp 25) (.tmp 26) 27 0 (by kernel_rfl) (NL rfl) a1 wh.spoke.flatten.length c2 .i64 (k : Int) 127 2 (by kernel_rfl) (by kernel_rfl) (by kernel_rfl) (by kernel_rfl) hs8 (by omega) (by omega) (RU 1 [4, 5, 6, 7, 8, 9, 10, 11, 12, 13, 14, 15] [(28, .e a1 (k * 2) 0)] (by kernel_rfl) rfl (OPC (LOADE 3 (.tmp 28) 29 3 (by kernel_rfl) (NL rfl) a1 (k * 2) 0 (pinE y6) (vi y6.at') (by kernel_rfl) (fun w hw => (hw.rdO 0 rfl).flat hx_y6) (by kernel_rfl) (OPC (CALL 58 #[vi y6.at', vi 1, vi 1000008] (some 30) (by kernel_rfl) [] [] _ rfl (RV (.bool (inB y6.at' 1 1000008))) (fun w hw => l1In_c w y6.at' 1 1000008) (NO rfl) ?_))))))))))))))))
    rintro ⟨⟩
    refine RU 2 [8, 9, 10, 11, 12, 13, 14, 15] [(32, B (!(inB y6.at' 1 1000008)))] (by kernel_rfl) rfl (SPLIT (d := 32) (!(inB y6.at' 1 1000008)) (by kernel_rfl) (fun bh9 => ?_) (fun bh9 => ?_))
    ·
     have h9 := bh9
     have h9 := notT h9
     refine RU 8 [] [(40, B true)] (by kernel_rfl) rfl (ENDOPS (NEXT (IFT (by kernel_rfl) (SEQ (REGION [0] rfl (RU 1 [] [(2, B false)] (by kernel_rfl) rfl (ENDOPS (NEXT (RET (PASS trivial (OUTR (PASS trivial (PASS trivial (OUTR (PASS trivial (FIN (.bool false) (by kernel_rfl) () ?_ [] ?_))))))))))))))))
     · (first | (exact congrArg Value.bool (wheelOk_t ⟨by omega, by omega, fun z hz => hvp z (by rw [hkk, List.take_length]; exact hz), ids_nodup (by rw [hkk] at hvi; exact hvi), fun i l hl => hv0 i l (by have := (List.getElem?_eq_some_iff.1 hl).1; simp only [List.length_nil] at hk; omega) hl⟩).symm) | (refine congrArg Value.bool (wheelOk_f fun hw9 => ?_).symm; obtain ⟨w1, w2, w3, w4, w5⟩ := hw9; first | omega | (have w6 := w3 _ (List.mem_of_getElem? hx_y6); simp only [PinR] at w6; simp_all; done)))
     · rfl
    ·
     have h9 := bh9
     have h9 := notF h9
     refine RU 2 [10, 11, 12, 13, 14, 15] [(33, .v (.slice a1 wh.spoke.flatten.length c2)), (34, I (k : Int))] (by kernel_rfl) rfl (OPC (INDEX 116 (.tmp 33) (.tmp 34) 35 0 (by kernel_rfl) (NL rfl) a1 wh.spoke.flatten.length c2 .i64 (k : Int) 127 2 (by kernel_rfl) (by kernel_rfl) (by kernel_rfl) (by kernel_rfl) hs8 (by omega) (by omega) (RU 1 [12, 13, 14, 15] [(36, .e a1 (k * 2) 1)] (by kernel_rfl) rfl (OPC (LOADE 3 (.tmp 36) 37 3 (by kernel_rfl) (NL rfl) a1 (k * 2) 1 (pinE y6) (vi y6.id) (by kernel_rfl) (fun w hw => (hw.rdO 0 rfl).flat hx_y6) (by kernel_rfl) (OPC (CALL 58 #[vi y6.id, vi 1, vi 999] (some 38) (by kernel_rfl) [] [] _ rfl (RV (.bool (inB y6.id 1 999))) (fun w hw => l1In_c w y6.id 1 999) (NO rfl) ?_)))))))
     rintro ⟨⟩
     refine RU 2 [] [(40, B (!(inB y6.id 1 999)))] (by kernel_rfl) rfl (ENDOPS (NEXT (IF (!(inB y6.id 1 999)) (by kernel_rfl) (fun bh10 => ?_) (fun bh10 => ?_))))
     ·
      have h10 := bh10
      have h10 := notT h10
      refine SEQ (REGION [0] rfl (RU 1 [] [(2, B false)] (by kernel_rfl) rfl (ENDOPS (NEXT (RET (PASS trivial (OUTR (PASS trivial (PASS trivial (OUTR (PASS trivial (FIN (.bool false) (by kernel_rfl) () ?_ [] ?_))))))))))))
      · (first | (exact congrArg Value.bool (wheelOk_t ⟨by omega, by omega, fun z hz => hvp z (by rw [hkk, List.take_length]; exact hz), ids_nodup (by rw [hkk] at hvi; exact hvi), fun i l hl => hv0 i l (by have := (List.getElem?_eq_some_iff.1 hl).1; simp only [List.length_nil] at hk; omega) hl⟩).symm) | (refine congrArg Value.bool (wheelOk_f fun hw9 => ?_).symm; obtain ⟨w1, w2, w3, w4, w5⟩ := hw9; first | omega | (have w6 := w3 _ (List.mem_of_getElem? hx_y6); simp only [PinR] at w6; simp_all; done)))
      · rfl
     ·
      have h10 := bh10
      have h10 := notF h10
      refine SKIP (NEXT (SEQ (REGION [0] rfl (RU 1 [] [(5, I 0)] (by kernel_rfl) rfl (ENDOPS (NEXT (BLOCK (LOOP (ι := Nat) (fun j => [(1, .p 0 0), (3, .v (.slice a1 wh.spoke.flatten.length c2)), (4, I (k : Int)), (5, I (j : Int))]) (fun j => [(72, [.slice wh_spoke_a wh.spoke.length wh_spoke_c])]) (fun j => [slA 127 pinL (.slice a1 wh.spoke.flatten.length c2) wh.spoke.flatten]) (fun j => j ≤ k ∧ (∀ (i : Nat) (x : Pin), i < j → wh.spoke.flatten[i]? = some x → x.id ≠ y6.id)) (fun j => k - j) (0) [1, 3, 4, 5] ⟨by first | omega | (dsimp only; omega), fun i x hi => absurd hi (Nat.not_lt_zero _)⟩ (by kernel_rfl) rfl rfl ?_))))))))
      rintro j ⟨hj, hjn⟩
      try dsimp only at hj hjn
      refine SEQ (SEQ (REGION [0, 1, 2] rfl (RU 3 [] [(43, B (decide ((j : Int) < (k : Int))))] (by kernel_rfl) rfl (ENDOPS (NEXT (IF (decide ((j : Int) < (k : Int))) (by kernel_rfl) (fun bh11 => ?_) (fun bh11 => ?_)))))))
      ·
       have h11 := bh11
       have h11 := of_decide_eq_true h11
       refine SKIP (NEXT (SEQ (BLOCK (SEQ (REGIONQ (by kernel_rfl) (by kernel_rfl) (QRU 2 0 2 [(46, .v (.slice a1 wh.spoke.flatten.length c2)), (47, I (j : Int))] (by kernel_rfl) rfl ?_))))))
       obtain ⟨x12, hx13⟩ : ∃ y, wh.spoke.flatten[j]? = some y := ⟨_, List.getElem?_eq_getElem (by omega)⟩
       refine QINDEX 116 (.tmp 46) (.tmp 47) 48 0 (by kernel_rfl) (NL rfl) a1 wh.spoke.flatten.length c2 .i64 (j : Int) 127 2 (by kernel_rfl) (by kernel_rfl) (by kernel_rfl) (by kernel_rfl) hs8 (by omega) (by omega) (QRU 1 3 4 [(49, .e a1 (j * 2) 1)] (by kernel_rfl) rfl (QLOADE 3 (.tmp 49) 50 3 (by kernel_rfl) (NL rfl) a1 (j * 2) 1 (pinE x12) (vi x12.id) (by kernel_rfl) (fun w hw => (hw.rdO 0 rfl).flat hx13) (by kernel_rfl) (QRU 2 5 7 [(51, .v (.slice a1 wh.spoke.flatten.length c2)), (52, I (k : Int))] (by kernel_rfl) rfl (QINDEX 116 (.tmp 51) (.tmp 52) 53 0 (by kernel_rfl) (NL rfl) a1 wh.spoke.flatten.length c2 .i64 (k : Int) 127 2 (by kernel_rfl) (by kernel_rfl) (by kernel_rfl) (by kernel_rfl) hs8 (by omega) (by omega) (QRU 1 8 9 [(54, .e a1 (k * 2) 1)] (by kernel_rfl) rfl (QLOADE 3 (.tmp 54) 55 3 (by kernel_rfl) (NL rfl) a1 (k * 2) 1 (pinE y6) (vi y6.id) (by kernel_rfl) (fun w hw => (hw.rdO 0 rfl).flat hx_y6) (by kernel_rfl) (QRU 1 10 11 [(56, B (x12.id == y6.id))] (by kernel_rfl) rfl (QEND rfl (NEXT (IF (x12.id == y6.id) (by kernel_rfl) (fun bh14 => ?_) (fun bh14 => ?_)))))))))))
       ·
        have h14 := bh14
        have h14 := eq_of_beq h14
        refine SEQ (REGION [0] rfl (RU 1 [] [(2, B false)] (by kernel_rfl) rfl (ENDOPS (NEXT (RET (OUTR (PASS trivial (PASS trivial (OUTR (OUTR (PASS trivial (PASS trivial (OUTR (PASS trivial (FIN (.bool false) (by kernel_rfl) () ?_ [] ?_)))))))))))))))
        · (first | (exact congrArg Value.bool (wheelOk_t ⟨by omega, by omega, fun z hz => hvp z (by rw [hkk, List.take_length]; exact hz), ids_nodup (by rw [hkk] at hvi; exact hvi), fun i l hl => hv0 i l (by have := (List.getElem?_eq_some_iff.1 hl).1; simp only [List.length_nil] at hk; omega) hl⟩).symm) | (refine congrArg Value.bool (wheelOk_f fun hw9 => ?_).symm; obtain ⟨w1, w2, w3, w4, w5⟩ := hw9; first | omega | exact absurd w4 (ids_no (i := j) (j := k) (by omega) hx13 hx_y6 (by assumption)) | (have w6 := (w5 k _ hx_y6 j _ hx13).1; omega) | (have w6 := w3 _ (List.mem_of_getElem? hx_y6); simp only [PinR] at w6; simp_all; done)))
        · rfl
       ·
        have h14 := bh14
        have h14 := ne_of_beq_false h14
        refine SKIP (OUTN (NEXT (REGION [0, 1, 2] rfl (RU 2 [2] [(45, I (wr ((j : Int) + 1)))] (by kernel_rfl) rfl (CAST (d := 45) (vi (wr ((j : Int) + 1))) (vi ((j + 1 : Nat) : Int)) (by kernel_rfl) (vi_cast (by omega) (by omega)) (RU 1 [] [(5, I ((j + 1 : Nat) : Int))] (by kernel_rfl) rfl (ENDOPS (BACK (j + 1) [1, 3, 4, 5] 1 [0] _ ⟨by first | omega | (dsimp only; omega), fun i x hi hx => by by_cases h9 : i = j; (subst h9; simp_all); exact hjn i x (by omega) hx⟩ (by first | omega | (dsimp only; omega)) (by kernel_rfl) rfl rfl rfl))))))))
      ·
       have h11 := bh11
       have h11 := of_decide_eq_false h11
       refine EXIT (PASS trivial (PASS trivial (OUT (OUTN (NEXT (REGION [0, 1, 2] rfl (RU 2 [2] [(24, I (wr ((k : Int) + 1)))] (by kernel_rfl) rfl (CAST (d := 24) (vi (wr ((k : Int) + 1))) (vi ((k + 1 : Nat) : Int)) (by kernel_rfl) (vi_cast (by omega) (by omega)) (RU 1 [] [(4, I ((k + 1 : Nat) : Int))] (by kernel_rfl) rfl (ENDOPS (BACK (k + 1, ys7) [1, 3, 4] 1 [0] _ ⟨hl_y6, hd_y6, (by rw [List.take_add_one, hx_y6]; intro x hx; rcases List.mem_append.1 hx with h | h; exact hv0 x h; simp at h; subst h; exact ⟨by assumption, by assumption⟩), (ids_succ hv1 hx_y6 (fun i x hi => hjn i x (by omega)))⟩ (by simp) (by kernel_rfl) rfl rfl rfl)))))))))))
   ·
    have h5 := bh5
    have h5 := of_decide_eq_false h5
    obtain rfl := drop_nil hk (by omega)
    have hvp := hv0; have hvi := hv1; have hkk : k = wh.spoke.flatten.length := (by simpa using hk)
    refine EXIT (PASS trivial (PASS trivial (OUT (NEXT (SEQ (SEQ (REGION [0] rfl (RU 1 [] [(6, I 0)] (by kernel_rfl) rfl (ENDOPS (NEXT (BLOCK (LOOP (ι := Nat × (List (List Pin))) (fun j => [(1, .p 0 0), (6, I (j.1 : Int))]) (fun j => [(72, [.slice wh_spoke_a wh.spoke.length wh_spoke_c])]) (fun j => [slA 127 pinL (.slice a1 wh.spoke.flatten.length c2) wh.spoke.flatten]) (fun j => j.1 + j.2.length = wh.spoke.length ∧ wh.spoke.drop j.1 = j.2 ∧ (∀ (i : Nat) (l : List Pin), i < j.1 → wh.spoke[i]? = some l → SpokeP i l)) (fun j => j.2.length) (0, wh.spoke) [1, 6] ⟨by simp, rfl, fun i l hi => absurd hi (Nat.not_lt_zero _)⟩ (by kernel_rfl) rfl rfl ?_))))))))))))
    rintro ⟨k, ys⟩ ⟨hk, hd, hv0⟩
    try dsimp only at hk hd hv0
    refine SEQ (SEQ (REGION [0, 1, 2, 3, 4] rfl (RU 5 [] [(61, B (decide ((k : Int) < (wh.spoke.length : Int))))] (by kernel_rfl) rfl (ENDOPS (NEXT (IF (decide ((k : Int) < (wh.spoke.length : Int))) (by kernel_rfl) (fun bh15 => ?_) (fun bh15 => ?_)))))))
    ·
     have h15 := bh15
     have h15 := of_decide_eq_true h15
     obtain ⟨y16, ys17, rfl, hx_y16, hd_y16, hl_y16⟩ := drop_cons hd hk (by omega)
     refine SKIP (NEXT (SEQ (BLOCK (SEQ (REGION [0] rfl (RU 1 [] [(7, I 0)] (by kernel_rfl) rfl (ENDOPS (NEXT (BLOCK (LOOP (ι := Nat) (fun j => [(1, .p 0 0), (6, I (k : Int)), (7, I (j : Int))]) (fun j => [(72, [.slice wh_spoke_a wh.spoke.length wh_spoke_c])]) (fun j => [slA 127 pinL (.slice a1 wh.spoke.flatten.length c2) wh.spoke.flatten]) (fun j => j ≤ y16.length ∧ (∀ (m : Nat) (x : Pin), m < j → y16[m]? = some x → Int.tmod x.at' 9 = (k : Int) ∧ (0 < m → ∀ z, y16[m - 1]? = some z → pinLess z x = true))) (fun j => y16.length - j) (0) [1, 6, 7] ⟨by first | omega | (dsimp only; omega), fun i x hi => absurd hi (Nat.not_lt_zero _)⟩ (by kernel_rfl) rfl rfl ?_))))))))))
     rintro j ⟨hj, hjs⟩
     try dsimp only at hj hjs
     refine SEQ (SEQ (REGION [0, 1, 2, 3, 4, 5, 6, 7] rfl (RU 4 [4, 5, 6, 7] [(64, I (j : Int)), (66, .v (.slice wh_spoke_a wh.spoke.length wh_spoke_c)), (67, I (k : Int))] (by kernel_rfl) rfl ?_)))
     obtain ⟨a18, c19, hel21, hi20, hi20_cap⟩ := sl_view hwh_spoke hx_y16
     have hi20_len := hi20.len
     refine OPC (INDEX 70 (.tmp 66) (.tmp 67) 68 0 (by kernel_rfl) (NL rfl) wh_spoke_a wh.spoke.length wh_spoke_c .i64 (k : Int) 116 1 (by kernel_rfl) (by kernel_rfl) (by kernel_rfl) (by kernel_rfl) (Rd.some hwh_spoke (by omega)) (by omega) (by omega) (OPC (LOADE 116 (.tmp 68) 69 116 (by kernel_rfl) (NL rfl) wh_spoke_a (k * 1) 0 ([.slice a18 y16.length c19]) (.slice a18 y16.length c19) (by kernel_rfl) (fun w hw => hel21.fr hw.fr) (by kernel_rfl) (RU 2 [] [(71, B (decide ((j : Int) < (y16.length : Int))))] (by kernel_rfl) rfl (ENDOPS (NEXT (IF (decide ((j : Int) < (y16.length : Int))) (by kernel_rfl) (fun bh22 => ?_) (fun bh22 => ?_))))))))
     ·
      have h22 := bh22
      have h22 := of_decide_eq_true h22
      refine SKIP (NEXT (SEQ (BLOCK (SEQ (REGIONQ (by kernel_rfl) (by kernel_rfl) (QRU 3 0 3 [(75, .v (.slice wh_spoke_a wh.spoke.length wh_spoke_c)), (76, I (k : Int))] (by kernel_rfl) rfl ?_))))))
      obtain ⟨a23, c24, hel26, hi25, hi25_cap⟩ := sl_view hwh_spoke hx_y16
      have hi25_len := hi25.len
      refine QINDEX 70 (.tmp 75) (.tmp 76) 77 0 (by kernel_rfl) (NL rfl) wh_spoke_a wh.spoke.length wh_spoke_c .i64 (k : Int) 116 1 (by kernel_rfl) (by kernel_rfl) (by kernel_rfl) (by kernel_rfl) (Rd.some hwh_spoke (by omega)) (by omega) (by omega) (QLOADE 116 (.tmp 77) 78 116 (by kernel_rfl) (NL rfl) wh_spoke_a (k * 1) 0 ([.slice a23 y16.length c24]) (.slice a23 y16.length c24) (by kernel_rfl) (fun w hw => hel26.fr hw.fr) (by kernel_rfl) (QRU 1 5 6 [(79, I (j : Int))] (by kernel_rfl) rfl ?_))
      obtain ⟨x27, hx28⟩ : ∃ y, y16[j]? = some y := ⟨_, List.getElem?_eq_getElem (by omega)⟩
      refine QINDEX 116 (.tmp 78) (.tmp 79) 80 0 (by kernel_rfl) (NL rfl) a23 y16.length c24 .i64 (j : Int) 127 2 (by kernel_rfl) (by kernel_rfl) (by kernel_rfl) (by kernel_rfl) (Rd.some hi25 (by omega)) (by omega) (by omega) (QRU 1 7 8 [(81, .e a23 (j * 2) 0)] (by kernel_rfl) rfl (QLOADE 3 (.tmp 81) 82 3 (by kernel_rfl) (NL rfl) a23 (j * 2) 0 (pinE x27) (vi x27.at') (by kernel_rfl) (fun w hw => (hi25.fr hw.fr).flat hx28) (by kernel_rfl) (QRU 4 9 13 [(86, B ((Int.tmod x27.at' 9) != (k : Int)))] (by kernel_rfl) rfl (QSPLIT (d := 86) ((Int.tmod x27.at' 9) != (k : Int)) (by kernel_rfl) (fun bh29 => ?_) (fun bh29 => ?_)))))
      ·
       have h29 := bh29
       have h29 := bne_iff_ne.1 h29
       refine QRU 24 13 37 [(110, B true)] (by kernel_rfl) rfl (QEND rfl (NEXT (IFT (by kernel_rfl) (SEQ (REGION [0] rfl (RU 1 [] [(2, B false)] (by kernel_rfl) rfl (ENDOPS (NEXT (RET (OUTR (PASS trivial (PASS trivial (OUTR (OUTR (PASS trivial (PASS trivial (OUTR (PASS trivial (FIN (.bool false) (by kernel_rfl) () ?_ [] ?_)))))))))))))))))))
       · (first | (exact congrArg Value.bool (wheelOk_t ⟨by omega, by omega, fun z hz => hvp z (by rw [hkk, List.take_length]; exact hz), ids_nodup (by rw [hkk] at hvi; exact hvi), fun i l hl => hv0 i l (by have := (List.getElem?_eq_some_iff.1 hl).1; simp only [List.length_nil] at hk; omega) hl⟩).symm) | (refine congrArg Value.bool (wheelOk_f fun hw9 => ?_).symm; obtain ⟨w1, w2, w3, w4, w5⟩ := hw9; first | omega | exact absurd w4 (ids_no (i := j) (j := k) (by omega) hx28 hx_y16 (by assumption)) | (have w6 := (w5 k _ hx_y16 j _ hx28).1; omega) | (have w6 := w3 _ (List.mem_of_getElem? hx_y16); simp only [PinR] at w6; simp_all; done)))
       · rfl
      ·
       have h29 := bh29
       have h29 := bneF h29
       refine QRU 3 13 16 [(89, B (decide ((j : Int) > 0)))] (by kernel_rfl) rfl (QSPLIT (d := 89) (decide ((j : Int) > 0)) (by kernel_rfl) (fun bh30 => ?_) (fun bh30 => ?_))
       ·
        have h30 := bh30
        have h30 := of_decide_eq_true h30
        refine QRU 3 16 19 [(91, .v (.slice wh_spoke_a wh.spoke.length wh_spoke_c)), (92, I (k : Int))] (by kernel_rfl) rfl ?_
        obtain ⟨a31, c32, hel34, hi33, hi33_cap⟩ := sl_view hwh_spoke hx_y16
        have hi33_len := hi33.len
        refine QINDEX 70 (.tmp 91) (.tmp 92) 93 0 (by kernel_rfl) (NL rfl) wh_spoke_a wh.spoke.length wh_spoke_c .i64 (k : Int) 116 1 (by kernel_rfl) (by kernel_rfl) (by kernel_rfl) (by kernel_rfl) (Rd.some hwh_spoke (by omega)) (by omega) (by omega) (QLOADE 116 (.tmp 93) 94 116 (by kernel_rfl) (NL rfl) wh_spoke_a (k * 1) 0 ([.slice a31 y16.length c32]) (.slice a31 y16.length c32) (by kernel_rfl) (fun w hw => hel34.fr hw.fr) (by kernel_rfl) (QRU 2 21 23 [(96, I (wr ((j : Int) - 1)))] (by kernel_rfl) rfl (QCAST (d := 96) (vi (wr ((j : Int) - 1))) (vi ((j - 1 : Nat) : Int)) (by kernel_rfl) (vi_cast (by omega) (by omega)) ?_)))
        obtain ⟨x35, hx36⟩ : ∃ y, y16[j - 1]? = some y := ⟨_, List.getElem?_eq_getElem (by omega)⟩
        refine QINDEX 116 (.tmp 94) (.tmp 96) 97 0 (by kernel_rfl) (NL rfl) a31 y16.length c32 .i64 ((j - 1 : Nat) : Int) 127 2 (by kernel_rfl) (by kernel_rfl) (by kernel_rfl) (by kernel_rfl) (Rd.some hi33 (by omega)) (by omega) (by omega) (QLOADE 127 (.tmp 97) 98 127 (by kernel_rfl) (NL rfl) a31 ((j - 1) * 2) 0 (pinE x35) (.agg (pinE x35).toArray) (by kernel_rfl) (fun w hw => (hi33.fr hw.fr).flat hx36) (by kernel_rfl) (QRU 3 25 28 [(100, .v (.slice wh_spoke_a wh.spoke.length wh_spoke_c)), (101, I (k : Int))] (by kernel_rfl) rfl ?_))
        obtain ⟨a37, c38, hel40, hi39, hi39_cap⟩ := sl_view hwh_spoke hx_y16
        have hi39_len := hi39.len
        refine QINDEX 70 (.tmp 100) (.tmp 101) 102 0 (by kernel_rfl) (NL rfl) wh_spoke_a wh.spoke.length wh_spoke_c .i64 (k : Int) 116 1 (by kernel_rfl) (by kernel_rfl) (by kernel_rfl) (by kernel_rfl) (Rd.some hwh_spoke (by omega)) (by omega) (by omega) (QLOADE 116 (.tmp 102) 103 116 (by kernel_rfl) (NL rfl) wh_spoke_a (k * 1) 0 ([.slice a37 y16.length c38]) (.slice a37 y16.length c38) (by kernel_rfl) (fun w hw => hel40.fr hw.fr) (by kernel_rfl) (QRU 1 30 31 [(104, I (j : Int))] (by kernel_rfl) rfl (QINDEX 116 (.tmp 103) (.tmp 104) 105 0 (by kernel_rfl) (NL rfl) a37 y16.length c38 .i64 (j : Int) 127 2 (by kernel_rfl) (by kernel_rfl) (by kernel_rfl) (by kernel_rfl) (Rd.some hi39 (by omega)) (by omega) (by omega) (QLOADE 127 (.tmp 105) 106 127 (by kernel_rfl) (NL rfl) a37 (j * 2) 0 (pinE x27) (.agg (pinE x27).toArray) (by kernel_rfl) (fun w hw => (hi39.fr hw.fr).flat hx28) (by kernel_rfl) (QCALL 199 #[.agg #[vi x35.at', vi x35.id], .agg #[vi x27.at', vi x27.id]] (some 107) (by kernel_rfl) (.bool (pinLess x35 x27)) (fun w hw => l9Less_c w x35 x27) (NO rfl) (QRU 3 34 37 [(110, B (!(pinLess x35 x27)))] (by kernel_rfl) rfl (QEND rfl (NEXT (IF (!(pinLess x35 x27)) (by kernel_rfl) (fun bh41 => ?_) (fun bh41 => ?_))))))))))
        ·
         have h41 := bh41
         have h41 := notT h41
         refine SEQ (REGION [0] rfl (RU 1 [] [(2, B false)] (by kernel_rfl) rfl (ENDOPS (NEXT (RET (OUTR (PASS trivial (PASS trivial (OUTR (OUTR (PASS trivial (PASS trivial (OUTR (PASS trivial (FIN (.bool false) (by kernel_rfl) () ?_ [] ?_)))))))))))))))
         · (first | (exact congrArg Value.bool (wheelOk_t ⟨by omega, by omega, fun z hz => hvp z (by rw [hkk, List.take_length]; exact hz), ids_nodup (by rw [hkk] at hvi; exact hvi), fun i l hl => hv0 i l (by have := (List.getElem?_eq_some_iff.1 hl).1; simp only [List.length_nil] at hk; omega) hl⟩).symm) | (refine congrArg Value.bool (wheelOk_f fun hw9 => ?_).symm; obtain ⟨w1, w2, w3, w4, w5⟩ := hw9; first | omega | exact absurd w4 (ids_no (i := j) (j := k) (by omega) hx28 hx_y16 (by assumption)) | (have w6 := (w5 k _ hx_y16 j _ hx28).1; omega) | (have w6 := (w5 k _ hx_y16 j _ hx28).2 (by omega) _ hx36; simp_all; done) | (have w6 := w3 _ (List.mem_of_getElem? hx_y16); simp only [PinR] at w6; simp_all; done)))
         · rfl
        ·
         have h41 := bh41
         have h41 := notF h41
         refine SKIP (OUTN (NEXT (REGION [0, 1, 2] rfl (RU 2 [2] [(73, I (wr ((j : Int) + 1)))] (by kernel_rfl) rfl (CAST (d := 73) (vi (wr ((j : Int) + 1))) (vi ((j + 1 : Nat) : Int)) (by kernel_rfl) (vi_cast (by omega) (by omega)) (RU 1 [] [(7, I ((j + 1 : Nat) : Int))] (by kernel_rfl) rfl (ENDOPS (BACK (j + 1) [1, 6, 7] 1 [0] _ ⟨by first | omega | (dsimp only; omega), fun m x hm hx => by by_cases h9 : m = j; (subst h9; simp_all); exact hjs m x (by omega) hx⟩ (by first | omega | (dsimp only; omega)) (by kernel_rfl) rfl rfl rfl))))))))
       ·
        have h30 := bh30
        have h30 := of_decide_eq_false h30
        refine QRU 21 16 37 [(110, B false)] (by kernel_rfl) rfl (QEND rfl (NEXT (IFF (by kernel_rfl) (SKIP (OUTN (NEXT (REGION [0, 1, 2] rfl (RU 2 [2] [(73, I (wr ((j : Int) + 1)))] (by kernel_rfl) rfl (CAST (d := 73) (vi (wr ((j : Int) + 1))) (vi ((j + 1 : Nat) : Int)) (by kernel_rfl) (vi_cast (by omega) (by omega)) (RU 1 [] [(7, I ((j + 1 : Nat) : Int))] (by kernel_rfl) rfl (ENDOPS (BACK (j + 1) [1, 6, 7] 1 [0] _ ⟨by first | omega | (dsimp only; omega), fun m x hm hx => by by_cases h9 : m = j; (subst h9; simp_all); exact hjs m x (by omega) hx⟩ (by first | omega | (dsimp only; omega)) (by kernel_rfl) rfl rfl rfl))))))))))))
     ·
      have h22 := bh22
      have h22 := of_decide_eq_false h22
      refine EXIT (PASS trivial (PASS trivial (OUT (OUTN (NEXT (REGION [0, 1, 2] rfl (RU 2 [2] [(63, I (wr ((k : Int) + 1)))] (by kernel_rfl) rfl (CAST (d := 63) (vi (wr ((k : Int) + 1))) (vi ((k + 1 : Nat) : Int)) (by kernel_rfl) (vi_cast (by omega) (by omega)) (RU 1 [] [(6, I ((k + 1 : Nat) : Int))] (by kernel_rfl) rfl (ENDOPS (BACK (k + 1, ys17) [1, 6] 1 [0] _ ⟨hl_y16, hd_y16, (fun i l hi hl => by by_cases h9 : i = k; (subst h9; rw [hx_y16] at hl; injection hl with hl; subst hl; exact fun m x hm => hjs m x (by have := (List.getElem?_eq_some_iff.1 hm).1; omega) hm); exact hv0 i l (by omega) hl)⟩ (by simp) (by kernel_rfl) rfl rfl rfl)))))))))))
    ·
     have h15 := bh15
     have h15 := of_decide_eq_false h15
     obtain rfl := drop_nil hk (by omega)
     refine EXIT (PASS trivial (PASS trivial (OUT (NEXT (SEQ (REGION [0] rfl (RU 1 [] [(2, B true)] (by kernel_rfl) rfl (ENDOPS (NEXT (RET (FIN (.bool true) (by kernel_rfl) () ?_ [] ?_)))))))))))
     · (first | (exact congrArg Value.bool (wheelOk_t ⟨by omega, by omega, fun z hz => hvp z (by rw [hkk, List.take_length]; exact hz), ids_nodup (by rw [hkk] at hvi; exact hvi), fun i l hl => hv0 i l (by have := (List.getElem?_eq_some_iff.1 hl).1; simp only [List.length_nil] at hk; omega) hl⟩).symm) | (refine congrArg Value.bool (wheelOk_f fun hw9 => ?_).symm; obtain ⟨w1, w2, w3, w4, w5⟩ := hw9; first | omega))
     · rfl

end SX
end Go.Proofs.YtgbfemglimebdaaGreat
