/- Walks, printed by program. -/
import Derived.Test.YtgbfemglimebdaaGreatMdls
import Derived.Test.YtgbfemglimebdaaGreatSxd
import Derived.Test.YtgbfemglimebdaaGreatSxe
import Derived.Test.YtgbfemglimebdaaGreatSxc
import Derived.Test.YtgbfemglimebdaaGreatProg
namespace Go.Proofs.YtgbfemglimebdaaGreat
namespace SX
open Go Go.RowKit
set_option linter.unusedVariables false
set_option linter.unusedSimpArgs false
set_option maxRecDepth 10000
set_option maxHeartbeats 400000
theorem l1In_c (W : World) (x : Int) (lo : Int) (hi : Int) : Spec Tryz.prog W [] 58 #[vi x, vi lo, vi hi] (RV (.bool (inB x lo hi))) := by
 refine ENTER0 (N := 15) (vs := [vi x, vi lo, vi hi]) Tryz.func58 rfl rfl (NL rfl) ?_
 refine SEQ (REGION [0] rfl (RU 1 [] [] (by kernel_rfl) rfl (ENDOPS (NEXT (SEQ (REGION [0, 1, 2, 3, 4, 5, 6, 7, 8] rfl (RU 4 [4, 5, 6, 7, 8] [(10, B (decide (x ≥ lo)))] (by kernel_rfl) rfl (SPLIT (d := 10) (decide (x ≥ lo)) (by kernel_rfl) (fun bh1 => ?_) (fun bh1 => ?_)))))))))
 ·
  have h1 := bh1
  have h1 := of_decide_eq_true h1
  refine RU 5 [] [(6, B (decide (x ≤ hi)))] (by kernel_rfl) rfl (ENDOPS (NEXT (RET (FIN (.bool (decide (x ≤ hi))) (by kernel_rfl) () ?_ [] ?_))))
  · simp [RV, inB, *]
  · rfl
 ·
  have h1 := bh1
  have h1 := of_decide_eq_false h1
  refine RU 5 [] [(6, B false)] (by kernel_rfl) rfl (ENDOPS (NEXT (RET (FIN (.bool false) (by kernel_rfl) () ?_ [] ?_))))
  · simp [RV, inB, *]
  · rfl

theorem within_c (W : World) (n : Int) (lo : Int) (hi : Int) : Spec Tryz.prog W [] 79 #[vi n, vi lo, vi hi] (RV (.bool (inB n lo hi))) := by
 refine ENTER0 (N := 15) (vs := [vi n, vi lo, vi hi]) Tryz.func79 rfl rfl (NL rfl) ?_
 refine SEQ (REGION [0] rfl (RU 1 [] [] (by kernel_rfl) rfl (ENDOPS (NEXT (SEQ (REGION [0, 1, 2, 3, 4, 5, 6, 7, 8] rfl (RU 4 [4, 5, 6, 7, 8] [(10, B (decide (n ≥ lo)))] (by kernel_rfl) rfl (SPLIT (d := 10) (decide (n ≥ lo)) (by kernel_rfl) (fun bh1 => ?_) (fun bh1 => ?_)))))))))
 ·
  have h1 := bh1
  have h1 := of_decide_eq_true h1
  refine RU 5 [] [(6, B (decide (n ≤ hi)))] (by kernel_rfl) rfl (ENDOPS (NEXT (RET (FIN (.bool (decide (n ≤ hi))) (by kernel_rfl) () ?_ [] ?_))))
  · simp [RV, inB, *]
  · rfl
 ·
  have h1 := bh1
  have h1 := of_decide_eq_false h1
  refine RU 5 [] [(6, B false)] (by kernel_rfl) rfl (ENDOPS (NEXT (RET (FIN (.bool false) (by kernel_rfl) () ?_ [] ?_))))
  · simp [RV, inB, *]
  · rfl

theorem isIndex_c (W : World) (n : Int) (size : Int) : Spec Tryz.prog W [] 61 #[vi n, vi size] (RV (.bool (inB n 0 (wr (size - 1))))) := by
 refine ENTER0 (N := 9) (vs := [vi n, vi size]) Tryz.func61 rfl rfl (NL rfl) ?_
 refine SEQ (REGION [0] rfl (RU 1 [] [] (by kernel_rfl) rfl (ENDOPS (NEXT (SEQ (REGION [0, 1, 2, 3, 4] rfl (RU 3 [3, 4] [(5, I n), (7, I (wr (size - 1)))] (by kernel_rfl) rfl (OPC (CALL 79 #[vi n, vi 0, vi (wr (size - 1))] (some 8) (by kernel_rfl) [] [] _ rfl (RV (.bool (inB n 0 (wr (size - 1))))) (fun w hw => within_c w n 0 (wr (size - 1))) (NO rfl) ?_)))))))))
 rintro ⟨⟩
 refine RU 1 [] [(4, B (inB n 0 (wr (size - 1))))] (by kernel_rfl) rfl (ENDOPS (NEXT (RET (FIN (.bool (inB n 0 (wr (size - 1)))) (by kernel_rfl) () ?_ [] ?_))))
 · simp [RV]
 · rfl

theorem iRulesOk_c (W : World) (r : Rules) (r_seats_a : Option Addr) (r_seats_c : Nat) (hr_seats : Rd intL W r_seats_a r.seats) : Spec Tryz.prog W [] 78 #[.agg #[.slice r_seats_a r.seats.length r_seats_c, vi r.tiers, vi r.room, vi r.size, vi r.period, vi r.window, vi r.rest, vi r.tries, vi r.crew]] (RV (.bool (rulesOk r))) := by
 refine ENTER0 (N := 59) (vs := [.agg #[.slice r_seats_a r.seats.length r_seats_c, vi r.tiers, vi r.room, vi r.size, vi r.period, vi r.window, vi r.rest, vi r.tries, vi r.crew]]) Tryz.func78 rfl rfl (NL rfl) ?_
 have hr_seats_len := hr_seats.len
 refine SEQ (REGION [0, 1] rfl (RUL 2 [] [(1, .p 0 0)] [(31, [.slice r_seats_a r.seats.length r_seats_c, vi r.tiers, vi r.room, vi r.size, vi r.period, vi r.window, vi r.rest, vi r.tries, vi r.crew])] (by kernel_rfl) rfl (ENDOPS (NEXT (SEQ (SEQ (REGION [0, 1, 2, 3, 4] rfl (RU 3 [3, 4] [(7, I (r.seats.length : Int))] (by kernel_rfl) rfl (OPC (CALL 79 #[vi (r.seats.length : Int), vi 1, vi 4] (some 8) (by kernel_rfl) [] [] _ rfl (RV (.bool (inB (r.seats.length : Int) 1 4))) (fun w hw => within_c w (r.seats.length : Int) 1 4) (NO rfl) ?_))))))))))
 rintro ⟨⟩
 refine RU 1 [] [(9, B (!(inB (r.seats.length : Int) 1 4)))] (by kernel_rfl) rfl (ENDOPS (NEXT (IF (!(inB (r.seats.length : Int) 1 4)) (by kernel_rfl) (fun bh1 => ?_) (fun bh1 => ?_))))
 ·
  have h1 := bh1
  have h1 := notT h1
  refine SEQ (REGION [0] rfl (RU 1 [] [(2, B false)] (by kernel_rfl) rfl (ENDOPS (NEXT (RET (PASS trivial (FIN (.bool false) (by kernel_rfl) () ?_ [] ?_)))))))
  · simp [RV, rulesOk, allSeats, *]
  · rfl
 ·
  have h1 := bh1
  have h1 := notF h1
  refine SKIP (NEXT (SEQ (SEQ (REGION [0, 1, 2, 3] rfl (RU 4 [] [(11, .v (.slice r_seats_a r.seats.length r_seats_c)), (12, I (r.seats.length : Int)), (13, I 0)] (by kernel_rfl) rfl (ENDOPS (NEXT (BLOCK (LOOP (ι := Nat × (List Int)) (fun j => [(1, .p 0 0), (11, .v (.slice r_seats_a r.seats.length r_seats_c)), (12, I (r.seats.length : Int)), (13, I (j.1 : Int))]) (fun j => [(31, [.slice r_seats_a r.seats.length r_seats_c, vi r.tiers, vi r.room, vi r.size, vi r.period, vi r.window, vi r.rest, vi r.tries, vi r.crew])]) (fun j => []) (fun j => j.1 + j.2.length = r.seats.length ∧ r.seats.drop j.1 = j.2 ∧ allSeats r.seats = allSeats j.2) (fun j => j.2.length) (0, r.seats) [1, 11, 12, 13] ⟨by simp, rfl, rfl⟩ (by kernel_rfl) rfl rfl ?_)))))))))
  rintro ⟨k, ys⟩ ⟨hk, hd, hv0⟩
  try dsimp only at hk hd hv0
  refine SEQ (REGION [0] rfl (RU 1 [] [(14, B (decide ((k : Int) < (r.seats.length : Int))))] (by kernel_rfl) rfl (ENDOPS (NEXT (SEQ (IF (decide ((k : Int) < (r.seats.length : Int))) (by kernel_rfl) (fun bh2 => ?_) (fun bh2 => ?_)))))))
  ·
   have h2 := bh2
   have h2 := of_decide_eq_true h2
   obtain ⟨y3, ys4, rfl, hx_y3, hd_y3, hl_y3⟩ := drop_cons hd hk (by omega)
   refine SKIP (NEXT (SEQ (BLOCK (SEQ (REGION [0, 1, 2] rfl (OPC (INDEX 22 (.tmp 11) (.tmp 13) 15 0 (by kernel_rfl) (NL rfl) r_seats_a r.seats.length r_seats_c .i64 (k : Int) 3 1 (by kernel_rfl) (by kernel_rfl) (by kernel_rfl) (by kernel_rfl) (Rd.some hr_seats (by omega)) (by omega) (by omega) (OPC (LOADE 3 (.tmp 15) 16 3 (by kernel_rfl) (NL rfl) r_seats_a (k * 1) 0 ([vi y3]) (vi y3) (by kernel_rfl) (fun w hw => (hr_seats.fr hw.fr).flat hx_y3) (by kernel_rfl) (RU 1 [] [(4, I y3)] (by kernel_rfl) rfl (ENDOPS (NEXT (SEQ (REGION [0, 1, 2] rfl (RU 1 [1, 2] [(17, I y3)] (by kernel_rfl) rfl (OPC (CALL 79 #[vi y3, vi 1, vi 60] (some 18) (by kernel_rfl) [] [] _ rfl (RV (.bool (inB y3 1 60))) (fun w hw => within_c w y3 1 60) (NO rfl) ?_)))))))))))))))))
   rintro ⟨⟩
   refine RU 1 [] [(19, B (!(inB y3 1 60)))] (by kernel_rfl) rfl (ENDOPS (NEXT (IF (!(inB y3 1 60)) (by kernel_rfl) (fun bh5 => ?_) (fun bh5 => ?_))))
   ·
    have h5 := bh5
    have h5 := notT h5
    refine SEQ (REGION [0] rfl (RU 1 [] [(2, B false)] (by kernel_rfl) rfl (ENDOPS (NEXT (RET (OUTR (PASS trivial (PASS trivial (OUTR (PASS trivial (FIN (.bool false) (by kernel_rfl) () ?_ [] ?_)))))))))))
    · simp [RV, rulesOk, allSeats, *]
    · rfl
   ·
    have h5 := bh5
    have h5 := notF h5
    refine SKIP (OUTN (NEXT (REGION [0, 1] rfl (RU 1 [1] [(20, I (wr ((k : Int) + 1)))] (by kernel_rfl) rfl (CAST (d := 20) (vi (wr ((k : Int) + 1))) (vi ((k + 1 : Nat) : Int)) (by kernel_rfl) (vi_cast (by omega) (by omega)) (RU 1 [] [(13, I ((k + 1 : Nat) : Int))] (by kernel_rfl) rfl (ENDOPS (BACK (k + 1, ys4) [1, 11, 12, 13] 1 [] _ ⟨hl_y3, hd_y3, hv0.trans (by simp [allSeats, *])⟩ (by simp) (by kernel_rfl) rfl rfl rfl))))))))
  ·
   have h2 := bh2
   have h2 := of_decide_eq_false h2
   obtain rfl := drop_nil hk (by omega)
   refine EXIT (PASS trivial (PASS trivial (OUT (NEXT (SEQ (REGION [0, 1, 2, 3, 4, 5, 6, 7, 8, 9, 10, 11, 12, 13, 14, 15, 16, 17, 18, 19, 20, 21, 22, 23, 24, 25, 26, 27, 28, 29, 30, 31, 32, 33, 34, 35, 36, 37, 38] rfl (RU 2 [2, 3, 4, 5, 6, 7, 8, 9, 10, 11, 12, 13, 14, 15, 16, 17, 18, 19, 20, 21, 22, 23, 24, 25, 26, 27, 28, 29, 30, 31, 32, 33, 34, 35, 36, 37, 38] [(22, I r.tiers)] (by kernel_rfl) rfl (OPC (CALL 79 #[vi r.tiers, vi 1, vi 5] (some 23) (by kernel_rfl) [] [] _ rfl (RV (.bool (inB r.tiers 1 5))) (fun w hw => within_c w r.tiers 1 5) (NO rfl) ?_)))))))))
   rintro ⟨⟩
   refine RU 1 [4, 5, 6, 7, 8, 9, 10, 11, 12, 13, 14, 15, 16, 17, 18, 19, 20, 21, 22, 23, 24, 25, 26, 27, 28, 29, 30, 31, 32, 33, 34, 35, 36, 37, 38] [(24, B (inB r.tiers 1 5))] (by kernel_rfl) rfl (SPLIT (d := 24) (inB r.tiers 1 5) (by kernel_rfl) (fun bh6 => ?_) (fun bh6 => ?_))
   ·
    have h6 := bh6
    refine RU 2 [6, 7, 8, 9, 10, 11, 12, 13, 14, 15, 16, 17, 18, 19, 20, 21, 22, 23, 24, 25, 26, 27, 28, 29, 30, 31, 32, 33, 34, 35, 36, 37, 38] [(26, I r.room)] (by kernel_rfl) rfl (OPC (CALL 79 #[vi r.room, vi 1, vi 10] (some 27) (by kernel_rfl) [] [] _ rfl (RV (.bool (inB r.room 1 10))) (fun w hw => within_c w r.room 1 10) (NO rfl) ?_))
    rintro ⟨⟩
    refine RU 2 [9, 10, 11, 12, 13, 14, 15, 16, 17, 18, 19, 20, 21, 22, 23, 24, 25, 26, 27, 28, 29, 30, 31, 32, 33, 34, 35, 36, 37, 38] [(29, B (inB r.room 1 10))] (by kernel_rfl) rfl (SPLIT (d := 29) (inB r.room 1 10) (by kernel_rfl) (fun bh7 => ?_) (fun bh7 => ?_))
    ·
     have h7 := bh7
     refine RU 2 [11, 12, 13, 14, 15, 16, 17, 18, 19, 20, 21, 22, 23, 24, 25, 26, 27, 28, 29, 30, 31, 32, 33, 34, 35, 36, 37, 38] [(31, I r.size)] (by kernel_rfl) rfl (OPC (CALL 79 #[vi r.size, vi 1, vi 6] (some 32) (by kernel_rfl) [] [] _ rfl (RV (.bool (inB r.size 1 6))) (fun w hw => within_c w r.size 1 6) (NO rfl) ?_))
     rintro ⟨⟩
     refine RU 2 [14, 15, 16, 17, 18, 19, 20, 21, 22, 23, 24, 25, 26, 27, 28, 29, 30, 31, 32, 33, 34, 35, 36, 37, 38] [(34, B (inB r.size 1 6))] (by kernel_rfl) rfl (SPLIT (d := 34) (inB r.size 1 6) (by kernel_rfl) (fun bh8 => ?_) (fun bh8 => ?_))
     ·
      have h8 := bh8
      refine RU 2 [16, 17, 18, 19, 20, 21, 22, 23, 24, 25, 26, 27, 28, 29, 30, 31, 32, 33, 34, 35, 36, 37, 38] [(36, I r.period)] (by kernel_rfl) rfl (OPC (CALL 79 #[vi r.period, vi 1, vi 12] (some 37) (by kernel_rfl) [] [] _ rfl (RV (.bool (inB r.period 1 12))) (fun w hw => within_c w r.period 1 12) (NO rfl) ?_))
      rintro ⟨⟩
      refine RU 2 [19, 20, 21, 22, 23, 24, 25, 26, 27, 28, 29, 30, 31, 32, 33, 34, 35, 36, 37, 38] [(39, B (inB r.period 1 12))] (by kernel_rfl) rfl (SPLIT (d := 39) (inB r.period 1 12) (by kernel_rfl) (fun bh9 => ?_) (fun bh9 => ?_))
      ·
       have h9 := bh9
       refine RU 2 [21, 22, 23, 24, 25, 26, 27, 28, 29, 30, 31, 32, 33, 34, 35, 36, 37, 38] [(41, I r.window)] (by kernel_rfl) rfl (OPC (CALL 79 #[vi r.window, vi 1, vi 8] (some 42) (by kernel_rfl) [] [] _ rfl (RV (.bool (inB r.window 1 8))) (fun w hw => within_c w r.window 1 8) (NO rfl) ?_))
       rintro ⟨⟩
       refine RU 2 [24, 25, 26, 27, 28, 29, 30, 31, 32, 33, 34, 35, 36, 37, 38] [(44, B (inB r.window 1 8))] (by kernel_rfl) rfl (SPLIT (d := 44) (inB r.window 1 8) (by kernel_rfl) (fun bh10 => ?_) (fun bh10 => ?_))
       ·
        have h10 := bh10
        refine RU 2 [26, 27, 28, 29, 30, 31, 32, 33, 34, 35, 36, 37, 38] [(46, I r.tries)] (by kernel_rfl) rfl (OPC (CALL 79 #[vi r.tries, vi 1, vi 4] (some 47) (by kernel_rfl) [] [] _ rfl (RV (.bool (inB r.tries 1 4))) (fun w hw => within_c w r.tries 1 4) (NO rfl) ?_))
        rintro ⟨⟩
        refine RU 2 [29, 30, 31, 32, 33, 34, 35, 36, 37, 38] [(49, B (inB r.tries 1 4))] (by kernel_rfl) rfl (SPLIT (d := 49) (inB r.tries 1 4) (by kernel_rfl) (fun bh11 => ?_) (fun bh11 => ?_))
        ·
         have h11 := bh11
         refine RU 2 [31, 32, 33, 34, 35, 36, 37, 38] [(51, I r.crew)] (by kernel_rfl) rfl (OPC (CALL 79 #[vi r.crew, vi 1, vi 3] (some 52) (by kernel_rfl) [] [] _ rfl (RV (.bool (inB r.crew 1 3))) (fun w hw => within_c w r.crew 1 3) (NO rfl) ?_))
         rintro ⟨⟩
         refine RU 2 [34, 35, 36, 37, 38] [(54, B (inB r.crew 1 3))] (by kernel_rfl) rfl (SPLIT (d := 54) (inB r.crew 1 3) (by kernel_rfl) (fun bh12 => ?_) (fun bh12 => ?_))
         ·
          have h12 := bh12
          refine RU 2 [36, 37, 38] [(56, I r.rest)] (by kernel_rfl) rfl (OPC (CALL 79 #[vi r.rest, vi 0, vi 8] (some 57) (by kernel_rfl) [] [] _ rfl (RV (.bool (inB r.rest 0 8))) (fun w hw => within_c w r.rest 0 8) (NO rfl) ?_))
          rintro ⟨⟩
          refine RU 2 [] [(2, B (inB r.rest 0 8))] (by kernel_rfl) rfl (ENDOPS (NEXT (RET (FIN (.bool (inB r.rest 0 8)) (by kernel_rfl) () ?_ [] ?_))))
          · simp [RV, rulesOk, allSeats, *]
          · rfl
         ·
          have h12 := bh12
          refine RU 5 [] [(2, B false)] (by kernel_rfl) rfl (ENDOPS (NEXT (RET (FIN (.bool false) (by kernel_rfl) () ?_ [] ?_))))
          · simp [RV, rulesOk, allSeats, *]
          · rfl
        ·
         have h11 := bh11
         refine RU 10 [] [(2, B false)] (by kernel_rfl) rfl (ENDOPS (NEXT (RET (FIN (.bool false) (by kernel_rfl) () ?_ [] ?_))))
         · simp [RV, rulesOk, allSeats, *]
         · rfl
       ·
        have h10 := bh10
        refine RU 15 [] [(2, B false)] (by kernel_rfl) rfl (ENDOPS (NEXT (RET (FIN (.bool false) (by kernel_rfl) () ?_ [] ?_))))
        · simp [RV, rulesOk, allSeats, *]
        · rfl
      ·
       have h9 := bh9
       refine RU 20 [] [(2, B false)] (by kernel_rfl) rfl (ENDOPS (NEXT (RET (FIN (.bool false) (by kernel_rfl) () ?_ [] ?_))))
       · simp [RV, rulesOk, allSeats, *]
       · rfl
     ·
      have h8 := bh8
      refine RU 25 [] [(2, B false)] (by kernel_rfl) rfl (ENDOPS (NEXT (RET (FIN (.bool false) (by kernel_rfl) () ?_ [] ?_))))
      · simp [RV, rulesOk, allSeats, *]
      · rfl
    ·
     have h7 := bh7
     refine RU 30 [] [(2, B false)] (by kernel_rfl) rfl (ENDOPS (NEXT (RET (FIN (.bool false) (by kernel_rfl) () ?_ [] ?_))))
     · simp [RV, rulesOk, allSeats, *]
     · rfl
   ·
    have h6 := bh6
    refine RU 35 [] [(2, B false)] (by kernel_rfl) rfl (ENDOPS (NEXT (RET (FIN (.bool false) (by kernel_rfl) () ?_ [] ?_))))
    · simp [RV, rulesOk, allSeats, *]
    · rfl

theorem isNaN_c (W : World) (x : Int) : Spec Tryz.prog W [] 193 #[vi x] (RV (.bool false)) := by
 refine ENTER0 (N := 6) (vs := [vi x]) Tryz.func193 rfl rfl (NL rfl) ?_
 refine SEQ (REGION [0] rfl (RU 1 [] [] (by kernel_rfl) rfl (ENDOPS (NEXT (SEQ (REGION [0, 1, 2, 3] rfl (RU 4 [] [(2, B (x != x))] (by kernel_rfl) rfl (ENDOPS (NEXT (RET (FIN (.bool (x != x)) (by kernel_rfl) () ?_ [] ?_)))))))))))
 · simp [RV]
 · rfl

theorem cmpI_c (W : World) (x : Int) (y : Int) : Spec Tryz.prog W [] 206 #[vi x, vi y] (RV (vi (cmpI x y))) := by
 refine ENTER0 (N := 20) (vs := [vi x, vi y]) Tryz.func206 rfl rfl (NL rfl) ?_
 refine SEQ (REGION [0] rfl (RU 1 [] [] (by kernel_rfl) rfl (ENDOPS (NEXT (SEQ (REGION [0, 1, 2] rfl (RU 1 [1, 2] [(7, I x)] (by kernel_rfl) rfl (OPC (CALL 193 #[vi x] (some 8) (by kernel_rfl) [] [] _ rfl (RV (.bool false)) (fun w hw => isNaN_c w x) (NO rfl) ?_)))))))))
 rintro ⟨⟩
 refine RU 1 [] [(5, B false)] (by kernel_rfl) rfl (ENDOPS (NEXT (SEQ (REGION [0, 1, 2] rfl (RU 1 [1, 2] [(9, I y)] (by kernel_rfl) rfl (OPC (CALL 193 #[vi y] (some 10) (by kernel_rfl) [] [] _ rfl (RV (.bool false)) (fun w hw => isNaN_c w y) (NO rfl) ?_)))))))
 rintro ⟨⟩
 refine RU 1 [] [(6, B false)] (by kernel_rfl) rfl (ENDOPS (NEXT (SEQ (SEQ (REGION [0] rfl (RU 1 [] [(11, B false)] (by kernel_rfl) rfl (ENDOPS (NEXT (IFF (by kernel_rfl) (SKIP (NEXT (SEQ (SEQ (REGION [0] rfl (RU 1 [] [(13, B false)] (by kernel_rfl) rfl (ENDOPS (NEXT (IFF (by kernel_rfl) (SKIP (NEXT (SEQ (SEQ (REGION [0, 1, 2] rfl (RU 3 [] [(16, B (decide (x < y)))] (by kernel_rfl) rfl (ENDOPS (NEXT (IF (decide (x < y)) (by kernel_rfl) (fun bh1 => ?_) (fun bh1 => ?_))))))))))))))))))))))))))))
 ·
  have h1 := bh1
  have h1 := of_decide_eq_true h1
  refine SEQ (REGION [0] rfl (RU 1 [] [(4, I (-1))] (by kernel_rfl) rfl (ENDOPS (NEXT (RET (PASS trivial (FIN (vi (-1)) (by kernel_rfl) () ?_ [] ?_)))))))
  · (first | (simp [RV, cmpI, *]; done) | (simp_all [RV, cmpI]; done) | (simp_all [RV, cmpI]; omega))
  · rfl
 ·
  have h1 := bh1
  have h1 := of_decide_eq_false h1
  refine SKIP (NEXT (SEQ (SEQ (REGION [0, 1, 2] rfl (RU 3 [] [(19, B (decide (x > y)))] (by kernel_rfl) rfl (ENDOPS (NEXT (IF (decide (x > y)) (by kernel_rfl) (fun bh2 => ?_) (fun bh2 => ?_)))))))))
  ·
   have h2 := bh2
   have h2 := of_decide_eq_true h2
   refine SEQ (REGION [0] rfl (RU 1 [] [(4, I 1)] (by kernel_rfl) rfl (ENDOPS (NEXT (RET (PASS trivial (FIN (vi 1) (by kernel_rfl) () ?_ [] ?_)))))))
   · (first | (simp [RV, cmpI, *]; done) | (simp_all [RV, cmpI]; done) | (simp_all [RV, cmpI]; omega))
   · rfl
  ·
   have h2 := bh2
   have h2 := of_decide_eq_false h2
   refine SKIP (NEXT (SEQ (REGION [0] rfl (RU 1 [] [(4, I 0)] (by kernel_rfl) rfl (ENDOPS (NEXT (RET (FIN (vi 0) (by kernel_rfl) () ?_ [] ?_))))))))
   · (first | (simp [RV, cmpI, *]; done) | (simp_all [RV, cmpI]; done) | (simp_all [RV, cmpI]; omega))
   · rfl

theorem cmpEntry_c (W : World) (a : Entry) (b : Entry) : Spec Tryz.prog W [] 171 #[.agg #[vi a.level, vi a.turn, vi a.id, vi a.size], .agg #[vi b.level, vi b.turn, vi b.id, vi b.size]] (RV (vi (cmpEntry a b))) := by
 refine ENTER0 (N := 19) (vs := [.agg #[vi a.level, vi a.turn, vi a.id, vi a.size], .agg #[vi b.level, vi b.turn, vi b.id, vi b.size]]) Tryz.func171 rfl rfl (NL rfl) ?_
 refine SEQ (REGION [0, 1, 2] rfl (RUL 3 [] [(2, .p 0 0), (3, .p 1 0)] [(114, entryE a), (114, entryE b)] (by kernel_rfl) rfl (ENDOPS (NEXT (SEQ (SEQ (REGION [0, 1, 2, 3, 4, 5] rfl (RU 4 [4, 5] [(7, I a.level), (9, I b.level)] (by kernel_rfl) rfl (OPC (CALL 206 #[vi a.level, vi b.level] (some 10) (by kernel_rfl) [] [] _ rfl (RV (vi (cmpI a.level b.level))) (fun w hw => cmpI_c w a.level b.level) (NO rfl) ?_))))))))))
 rintro ⟨⟩
 refine RU 1 [] [(5, I (cmpI a.level b.level))] (by kernel_rfl) rfl (ENDOPS (NEXT (SEQ (REGION [0, 1] rfl (RU 2 [] [(12, B ((cmpI a.level b.level) != 0))] (by kernel_rfl) rfl (ENDOPS (NEXT (IF ((cmpI a.level b.level) != 0) (by kernel_rfl) (fun bh1 => ?_) (fun bh1 => ?_)))))))))
 ·
  have h1 := bh1
  have h1 := bne_iff_ne.1 h1
  refine SEQ (REGION [0, 1] rfl (RU 2 [] [(4, I (cmpI a.level b.level))] (by kernel_rfl) rfl (ENDOPS (NEXT (RET (PASS trivial (FIN (vi (cmpI a.level b.level)) (by kernel_rfl) () ?_ [] ?_)))))))
  · (first | (simp [RV, cmpEntry, cmpPin, *]; done) | (simp_all [RV, cmpEntry, cmpPin]; done))
  · rfl
 ·
  have h1 := bh1
  have h1 := bneF h1
  refine SKIP (NEXT (SEQ (REGION [0, 1, 2, 3, 4, 5] rfl (RU 4 [4, 5] [(15, I a.turn), (17, I b.turn)] (by kernel_rfl) rfl (OPC (CALL 206 #[vi a.turn, vi b.turn] (some 18) (by kernel_rfl) [] [] _ rfl (RV (vi (cmpI a.turn b.turn))) (fun w hw => cmpI_c w a.turn b.turn) (NO rfl) ?_))))))
  rintro ⟨⟩
  refine RU 1 [] [(4, I (cmpI a.turn b.turn))] (by kernel_rfl) rfl (ENDOPS (NEXT (RET (FIN (vi (cmpI a.turn b.turn)) (by kernel_rfl) () ?_ [] ?_))))
  · (first | (simp [RV, cmpEntry, cmpPin, *]; done) | (simp_all [RV, cmpEntry, cmpPin]; done))
  · rfl

theorem cmpPin_c (W : World) (a : Pin) (b : Pin) : Spec Tryz.prog W [] 173 #[.agg #[vi a.at', vi a.id], .agg #[vi b.at', vi b.id]] (RV (vi (cmpPin a b))) := by
 refine ENTER0 (N := 19) (vs := [.agg #[vi a.at', vi a.id], .agg #[vi b.at', vi b.id]]) Tryz.func173 rfl rfl (NL rfl) ?_
 refine SEQ (REGION [0, 1, 2] rfl (RUL 3 [] [(2, .p 0 0), (3, .p 1 0)] [(127, pinE a), (127, pinE b)] (by kernel_rfl) rfl (ENDOPS (NEXT (SEQ (SEQ (REGION [0, 1, 2, 3, 4, 5] rfl (RU 4 [4, 5] [(7, I a.at'), (9, I b.at')] (by kernel_rfl) rfl (OPC (CALL 206 #[vi a.at', vi b.at'] (some 10) (by kernel_rfl) [] [] _ rfl (RV (vi (cmpI a.at' b.at'))) (fun w hw => cmpI_c w a.at' b.at') (NO rfl) ?_))))))))))
 rintro ⟨⟩
 refine RU 1 [] [(5, I (cmpI a.at' b.at'))] (by kernel_rfl) rfl (ENDOPS (NEXT (SEQ (REGION [0, 1] rfl (RU 2 [] [(12, B ((cmpI a.at' b.at') != 0))] (by kernel_rfl) rfl (ENDOPS (NEXT (IF ((cmpI a.at' b.at') != 0) (by kernel_rfl) (fun bh1 => ?_) (fun bh1 => ?_)))))))))
 ·
  have h1 := bh1
  have h1 := bne_iff_ne.1 h1
  refine SEQ (REGION [0, 1] rfl (RU 2 [] [(4, I (cmpI a.at' b.at'))] (by kernel_rfl) rfl (ENDOPS (NEXT (RET (PASS trivial (FIN (vi (cmpI a.at' b.at')) (by kernel_rfl) () ?_ [] ?_)))))))
  · (first | (simp [RV, cmpEntry, cmpPin, *]; done) | (simp_all [RV, cmpEntry, cmpPin]; done))
  · rfl
 ·
  have h1 := bh1
  have h1 := bneF h1
  refine SKIP (NEXT (SEQ (REGION [0, 1, 2, 3, 4, 5] rfl (RU 4 [4, 5] [(15, I a.id), (17, I b.id)] (by kernel_rfl) rfl (OPC (CALL 206 #[vi a.id, vi b.id] (some 18) (by kernel_rfl) [] [] _ rfl (RV (vi (cmpI a.id b.id))) (fun w hw => cmpI_c w a.id b.id) (NO rfl) ?_))))))
  rintro ⟨⟩
  refine RU 1 [] [(4, I (cmpI a.id b.id))] (by kernel_rfl) rfl (ENDOPS (NEXT (RET (FIN (vi (cmpI a.id b.id)) (by kernel_rfl) () ?_ [] ?_))))
  · (first | (simp [RV, cmpEntry, cmpPin, *]; done) | (simp_all [RV, cmpEntry, cmpPin]; done))
  · rfl

theorem iEntryLess_c (W : World) (a : Entry) (b : Entry) : Spec Tryz.prog W [] 184 #[.agg #[vi a.level, vi a.turn, vi a.id, vi a.size], .agg #[vi b.level, vi b.turn, vi b.id, vi b.size]] (RV (.bool (entryLess a b))) := by
 refine ENTER0 (N := 9) (vs := [.agg #[vi a.level, vi a.turn, vi a.id, vi a.size], .agg #[vi b.level, vi b.turn, vi b.id, vi b.size]]) Tryz.func184 rfl rfl (NL rfl) ?_
 refine SEQ (REGION [0, 1, 2] rfl (RUL 3 [] [(2, .p 0 0), (3, .p 1 0)] [(114, entryE a), (114, entryE b)] (by kernel_rfl) rfl (ENDOPS (NEXT (SEQ (REGION [0, 1, 2, 3, 4] rfl (RU 2 [2, 3, 4] [(5, .v (.agg (entryE a).toArray)), (6, .v (.agg (entryE b).toArray))] (by kernel_rfl) rfl (OPC (CALL 171 #[.agg #[vi a.level, vi a.turn, vi a.id, vi a.size], .agg #[vi b.level, vi b.turn, vi b.id, vi b.size]] (some 7) (by kernel_rfl) [] [] _ rfl (RV (vi (cmpEntry a b))) (fun w hw => cmpEntry_c w a b) (NO rfl) ?_)))))))))
 rintro ⟨⟩
 refine RU 2 [] [(4, B (decide ((cmpEntry a b) < 0)))] (by kernel_rfl) rfl (ENDOPS (NEXT (RET (FIN (.bool (decide ((cmpEntry a b) < 0))) (by kernel_rfl) () ?_ [] ?_))))
 · (simp only [RV, cmpEntry_lt])
 · rfl

theorem pinOk_c (W : World) (p : Pin) : Spec Tryz.prog W [] 179 #[.agg #[vi p.at', vi p.id]] (RV (.bool (inB (p).at' 1 1000008 && inB (p).id 1 999))) := by
 refine ENTER0 (N := 11) (vs := [.agg #[vi p.at', vi p.id]]) Tryz.func179 rfl rfl (NL rfl) ?_
 refine SEQ (REGION [0, 1] rfl (RUL 2 [] [(1, .p 0 0)] [(127, pinE p)] (by kernel_rfl) rfl (ENDOPS (NEXT (SEQ (REGION [0, 1, 2, 3, 4, 5, 6, 7, 8] rfl (RU 2 [2, 3, 4, 5, 6, 7, 8] [(4, I p.at')] (by kernel_rfl) rfl (OPC (CALL 79 #[vi p.at', vi 1, vi 1000008] (some 5) (by kernel_rfl) [] [] _ rfl (RV (.bool (inB p.at' 1 1000008))) (fun w hw => within_c w p.at' 1 1000008) (NO rfl) ?_)))))))))
 rintro ⟨⟩
 refine RU 1 [4, 5, 6, 7, 8] [(6, B (inB p.at' 1 1000008))] (by kernel_rfl) rfl (SPLIT (d := 6) (inB p.at' 1 1000008) (by kernel_rfl) (fun bh1 => ?_) (fun bh1 => ?_))
 ·
  have h1 := bh1
  refine RU 2 [6, 7, 8] [(8, I p.id)] (by kernel_rfl) rfl (OPC (CALL 79 #[vi p.id, vi 1, vi 999] (some 9) (by kernel_rfl) [] [] _ rfl (RV (.bool (inB p.id 1 999))) (fun w hw => within_c w p.id 1 999) (NO rfl) ?_))
  rintro ⟨⟩
  refine RU 2 [] [(2, B (inB p.id 1 999))] (by kernel_rfl) rfl (ENDOPS (NEXT (RET (FIN (.bool (inB p.id 1 999)) (by kernel_rfl) () ?_ [] ?_))))
  · (first | (simp [RV, *]; done) | (simp_all [RV]; done))
  · rfl
 ·
  have h1 := bh1
  refine RU 5 [] [(2, B false)] (by kernel_rfl) rfl (ENDOPS (NEXT (RET (FIN (.bool false) (by kernel_rfl) () ?_ [] ?_))))
  · (first | (simp [RV, *]; done) | (simp_all [RV]; done))
  · rfl

theorem iLedgerOk_c (W : World) (l : Ledger) : Spec Tryz.prog W [] 167 #[.agg #[vi l.total, vi l.free, vi l.held, vi l.sold, vi l.tied]] (RV (.bool (ledgerOk l))) := by
 refine ENTER0 (N := 47) (vs := [.agg #[vi l.total, vi l.free, vi l.held, vi l.sold, vi l.tied]]) Tryz.func167 rfl rfl (NL rfl) ?_
 refine SEQ (REGION [0, 1] rfl (RUL 2 [] [(1, .p 0 0)] [(68, ledgerE l)] (by kernel_rfl) rfl (ENDOPS (NEXT (SEQ (REGION [0, 1, 2, 3, 4, 5, 6, 7, 8, 9, 10, 11, 12, 13, 14, 15, 16, 17, 18, 19, 20, 21, 22, 23, 24, 25, 26, 27, 28, 29, 30, 31, 32, 33, 34, 35, 36, 37, 38, 39, 40, 41, 42, 43, 44] rfl (RU 2 [2, 3, 4, 5, 6, 7, 8, 9, 10, 11, 12, 13, 14, 15, 16, 17, 18, 19, 20, 21, 22, 23, 24, 25, 26, 27, 28, 29, 30, 31, 32, 33, 34, 35, 36, 37, 38, 39, 40, 41, 42, 43, 44] [(4, I l.total)] (by kernel_rfl) rfl (OPC (CALL 79 #[vi l.total, vi 1, vi 60] (some 5) (by kernel_rfl) [] [] _ rfl (RV (.bool (inB l.total 1 60))) (fun w hw => within_c w l.total 1 60) (NO rfl) ?_)))))))))
 rintro ⟨⟩
 refine RU 1 [4, 5, 6, 7, 8, 9, 10, 11, 12, 13, 14, 15, 16, 17, 18, 19, 20, 21, 22, 23, 24, 25, 26, 27, 28, 29, 30, 31, 32, 33, 34, 35, 36, 37, 38, 39, 40, 41, 42, 43, 44] [(6, B (inB l.total 1 60))] (by kernel_rfl) rfl (SPLIT (d := 6) (inB l.total 1 60) (by kernel_rfl) (fun bh1 => ?_) (fun bh1 => ?_))
 ·
  have h1 := bh1
  refine RU 4 [8, 9, 10, 11, 12, 13, 14, 15, 16, 17, 18, 19, 20, 21, 22, 23, 24, 25, 26, 27, 28, 29, 30, 31, 32, 33, 34, 35, 36, 37, 38, 39, 40, 41, 42, 43, 44] [(8, I l.free), (10, I l.total)] (by kernel_rfl) rfl (OPC (CALL 79 #[vi l.free, vi 0, vi l.total] (some 11) (by kernel_rfl) [] [] _ rfl (RV (.bool (inB l.free 0 l.total))) (fun w hw => within_c w l.free 0 l.total) (NO rfl) ?_))
  rintro ⟨⟩
  refine RU 2 [11, 12, 13, 14, 15, 16, 17, 18, 19, 20, 21, 22, 23, 24, 25, 26, 27, 28, 29, 30, 31, 32, 33, 34, 35, 36, 37, 38, 39, 40, 41, 42, 43, 44] [(13, B (inB l.free 0 l.total))] (by kernel_rfl) rfl (SPLIT (d := 13) (inB l.free 0 l.total) (by kernel_rfl) (fun bh2 => ?_) (fun bh2 => ?_))
  ·
   have h2 := bh2
   refine RU 4 [15, 16, 17, 18, 19, 20, 21, 22, 23, 24, 25, 26, 27, 28, 29, 30, 31, 32, 33, 34, 35, 36, 37, 38, 39, 40, 41, 42, 43, 44] [(15, I l.held), (17, I l.total)] (by kernel_rfl) rfl (OPC (CALL 79 #[vi l.held, vi 0, vi l.total] (some 18) (by kernel_rfl) [] [] _ rfl (RV (.bool (inB l.held 0 l.total))) (fun w hw => within_c w l.held 0 l.total) (NO rfl) ?_))
   rintro ⟨⟩
   refine RU 2 [18, 19, 20, 21, 22, 23, 24, 25, 26, 27, 28, 29, 30, 31, 32, 33, 34, 35, 36, 37, 38, 39, 40, 41, 42, 43, 44] [(20, B (inB l.held 0 l.total))] (by kernel_rfl) rfl (SPLIT (d := 20) (inB l.held 0 l.total) (by kernel_rfl) (fun bh3 => ?_) (fun bh3 => ?_))
   ·
    have h3 := bh3
    refine RU 4 [22, 23, 24, 25, 26, 27, 28, 29, 30, 31, 32, 33, 34, 35, 36, 37, 38, 39, 40, 41, 42, 43, 44] [(22, I l.sold), (24, I l.total)] (by kernel_rfl) rfl (OPC (CALL 79 #[vi l.sold, vi 0, vi l.total] (some 25) (by kernel_rfl) [] [] _ rfl (RV (.bool (inB l.sold 0 l.total))) (fun w hw => within_c w l.sold 0 l.total) (NO rfl) ?_))
    rintro ⟨⟩
    refine RU 2 [25, 26, 27, 28, 29, 30, 31, 32, 33, 34, 35, 36, 37, 38, 39, 40, 41, 42, 43, 44] [(27, B (inB l.sold 0 l.total))] (by kernel_rfl) rfl (SPLIT (d := 27) (inB l.sold 0 l.total) (by kernel_rfl) (fun bh4 => ?_) (fun bh4 => ?_))
    ·
     have h4 := bh4
     refine RU 13 [38, 39, 40, 41, 42, 43, 44] [(40, B ((wr ((wr (l.free + l.held)) + l.sold)) == l.total))] (by kernel_rfl) rfl (SPLIT (d := 40) ((wr ((wr (l.free + l.held)) + l.sold)) == l.total) (by kernel_rfl) (fun bh5 => ?_) (fun bh5 => ?_))
     ·
      have h5 := bh5
      have h5 := eq_of_beq h5
      refine RU 4 [42, 43, 44] [(42, I l.tied), (44, I l.sold)] (by kernel_rfl) rfl (OPC (CALL 79 #[vi l.tied, vi 0, vi l.sold] (some 45) (by kernel_rfl) [] [] _ rfl (RV (.bool (inB l.tied 0 l.sold))) (fun w hw => within_c w l.tied 0 l.sold) (NO rfl) ?_))
      rintro ⟨⟩
      refine RU 2 [] [(2, B (inB l.tied 0 l.sold))] (by kernel_rfl) rfl (ENDOPS (NEXT (RET (FIN (.bool (inB l.tied 0 l.sold)) (by kernel_rfl) () ?_ [] ?_))))
      · simp_all [RV, ledgerOk]
      · rfl
     ·
      have h5 := bh5
      have h5 := ne_of_beq_false h5
      refine RU 7 [] [(2, B false)] (by kernel_rfl) rfl (ENDOPS (NEXT (RET (FIN (.bool false) (by kernel_rfl) () ?_ [] ?_))))
      · simp_all [RV, ledgerOk]
      · rfl
    ·
     have h4 := bh4
     refine RU 20 [] [(2, B false)] (by kernel_rfl) rfl (ENDOPS (NEXT (RET (FIN (.bool false) (by kernel_rfl) () ?_ [] ?_))))
     · simp_all [RV, ledgerOk]
     · rfl
   ·
    have h3 := bh3
    refine RU 27 [] [(2, B false)] (by kernel_rfl) rfl (ENDOPS (NEXT (RET (FIN (.bool false) (by kernel_rfl) () ?_ [] ?_))))
    · simp_all [RV, ledgerOk]
    · rfl
  ·
   have h2 := bh2
   refine RU 34 [] [(2, B false)] (by kernel_rfl) rfl (ENDOPS (NEXT (RET (FIN (.bool false) (by kernel_rfl) () ?_ [] ?_))))
   · simp_all [RV, ledgerOk]
   · rfl
 ·
  have h1 := bh1
  refine RU 41 [] [(2, B false)] (by kernel_rfl) rfl (ENDOPS (NEXT (RET (FIN (.bool false) (by kernel_rfl) () ?_ [] ?_))))
  · simp_all [RV, ledgerOk]
  · rfl

theorem queueAt1_c (W : World) (e : Entry) (id_b : Nat) (id : Int) (hid : ElemAt W (some ⟨id_b, 0, none⟩) 0 [vi id]) : Spec Tryz.prog W [] 218 #[.agg #[vi e.level, vi e.turn, vi e.id, vi e.size], .pointer (some ⟨id_b, 0, none⟩)] (RV (.bool ((e).id == id))) := by
 refine ENTER0 (N := 8) (vs := [.agg #[vi e.level, vi e.turn, vi e.id, vi e.size], .pointer (some ⟨id_b, 0, none⟩)]) Tryz.func218 rfl rfl (NL rfl) ?_
 refine ASE (d := 1) rfl (SEQ (REGION [0, 1] rfl (RUL 2 [] [(2, .p 0 0)] [(114, entryE e)] (by kernel_rfl) rfl (ENDOPS (NEXT (SEQ (REGION [0, 1, 2, 3, 4] rfl (RU 2 [2, 3, 4] [(5, I e.id)] (by kernel_rfl) rfl (OPC (LOADE 3 (.tmp 1) 6 3 (by kernel_rfl) (NL rfl) (some ⟨id_b, 0, none⟩) 0 0 ([vi id]) (vi id) (by kernel_rfl) (fun w hw => (hid.fr hw.fr)) (by kernel_rfl) (RU 2 [] [(3, B (e.id == id))] (by kernel_rfl) rfl (ENDOPS (NEXT (RET (FIN (.bool (e.id == id)) (by kernel_rfl) () ?_ [] ?_)))))))))))))))
 · simp [RV]
 · rfl

theorem ixQueueAt_c (W : World) (list : List Entry) (list_a : Option Addr) (list_c : Nat) (hlist : Rd entryL W list_a list) (id_b : Nat) (id : Int) (hid : ElemAt W (some ⟨id_b, 0, none⟩) 0 [vi id]) : Spec Tryz.prog W [] 217 #[.slice list_a list.length list_c, .func (.func 218) #[] #[.pointer (some ⟨id_b, 0, none⟩)]] (RV (vi (idxF (fun e : Entry => e.id == id) list 0))) := by
 refine ENTER0 (N := 19) (vs := [.slice list_a list.length list_c, .func (.func 218) #[] #[.pointer (some ⟨id_b, 0, none⟩)]]) Tryz.func217 rfl rfl (NL rfl) ?_
 have hlist_len := hlist.len
 refine SEQ (REGION [0] rfl (RU 1 [] [] (by kernel_rfl) rfl (ENDOPS (NEXT (SEQ (SEQ (REGION [0, 1, 2] rfl (RU 3 [] [(7, I (list.length : Int)), (8, I 0)] (by kernel_rfl) rfl (ENDOPS (NEXT (BLOCK (LOOP (ι := Nat × (List Entry)) (fun j => [(0, .v (.slice list_a list.length list_c)), (1, .v (.func (.func 218) #[] #[.pointer (some ⟨id_b, 0, none⟩)])), (7, I (list.length : Int)), (8, I (j.1 : Int))]) (fun j => []) (fun j => []) (fun j => j.1 + j.2.length = list.length ∧ list.drop j.1 = j.2 ∧ idxF (fun e : Entry => e.id == id) list 0 = idxF (fun e : Entry => e.id == id) j.2 j.1) (fun j => j.2.length) (0, list) [0, 1, 7, 8] ⟨by simp, rfl, rfl⟩ (by kernel_rfl) rfl rfl ?_))))))))))))
 rintro ⟨k, ys⟩ ⟨hk, hd, hv0⟩
 try dsimp only at hk hd hv0
 refine SEQ (REGION [0] rfl (RU 1 [] [(9, B (decide ((k : Int) < (list.length : Int))))] (by kernel_rfl) rfl (ENDOPS (NEXT (SEQ (IF (decide ((k : Int) < (list.length : Int))) (by kernel_rfl) (fun bh1 => ?_) (fun bh1 => ?_)))))))
 ·
  have h1 := bh1
  have h1 := of_decide_eq_true h1
  obtain ⟨y2, ys3, rfl, hx_y2, hd_y2, hl_y2⟩ := drop_cons hd hk (by omega)
  refine SKIP (NEXT (SEQ (BLOCK (SEQ (REGION [0, 1] rfl (RU 2 [] [(5, I (k : Int))] (by kernel_rfl) rfl (ENDOPS (NEXT (SEQ (REGION [0, 1, 2, 3, 4, 5] rfl (RU 3 [3, 4, 5] [(11, .v (.func (.func 218) #[] #[.pointer (some ⟨id_b, 0, none⟩)])), (12, .v (.slice list_a list.length list_c)), (13, I (k : Int))] (by kernel_rfl) rfl (OPC (INDEX 69 (.tmp 12) (.tmp 13) 14 0 (by kernel_rfl) (NL rfl) list_a list.length list_c .i64 (k : Int) 114 4 (by kernel_rfl) (by kernel_rfl) (by kernel_rfl) (by kernel_rfl) (Rd.some hlist (by omega)) (by omega) (by omega) (OPC (LOADE 114 (.tmp 14) 15 114 (by kernel_rfl) (NL rfl) list_a (k * 4) 0 (entryE y2) (.agg (entryE y2).toArray) (by kernel_rfl) (fun w hw => (hlist.fr hw.fr).flat hx_y2) (by kernel_rfl) (OPC (CALL 218 #[.agg #[vi y2.level, vi y2.turn, vi y2.id, vi y2.size], .pointer (some ⟨id_b, 0, none⟩)] (some 16) (by kernel_rfl) [] [] _ rfl (RV (.bool ((y2).id == id))) (fun w hw => queueAt1_c w y2 id_b id (hid.fr hw.fr)) (NO rfl) ?_)))))))))))))))))
  rintro ⟨⟩
  refine ENDOPS (NEXT (IF ((y2).id == id) (by kernel_rfl) (fun bh4 => ?_) (fun bh4 => ?_)))
  ·
   have h4 := bh4
   have h4 := eq_of_beq h4
   refine SEQ (REGION [0, 1] rfl (RU 2 [] [(4, I (k : Int))] (by kernel_rfl) rfl (ENDOPS (NEXT (RET (OUTR (PASS trivial (PASS trivial (OUTR (PASS trivial (FIN (vi (k : Int)) (by kernel_rfl) () ?_ [] ?_)))))))))))
   · simp_all [RV, idxF]
   · rfl
  ·
   have h4 := bh4
   have h4 := ne_of_beq_false h4
   refine SKIP (OUTN (NEXT (REGION [0, 1] rfl (RU 1 [1] [(18, I (wr ((k : Int) + 1)))] (by kernel_rfl) rfl (CAST (d := 18) (vi (wr ((k : Int) + 1))) (vi ((k + 1 : Nat) : Int)) (by kernel_rfl) (vi_cast (by omega) (by omega)) (RU 1 [] [(8, I ((k + 1 : Nat) : Int))] (by kernel_rfl) rfl (ENDOPS (BACK (k + 1, ys3) [0, 1, 7, 8] 0 [] _ ⟨hl_y2, hd_y2, (hv0.trans (by simp_all [idxF]))⟩ (by simp) (by kernel_rfl) rfl rfl rfl))))))))
 ·
  have h1 := bh1
  have h1 := of_decide_eq_false h1
  obtain rfl := drop_nil hk (by omega)
  refine EXIT (PASS trivial (PASS trivial (OUT (NEXT (SEQ (REGION [0] rfl (RU 1 [] [(4, I (-1))] (by kernel_rfl) rfl (ENDOPS (NEXT (RET (FIN (vi (-1)) (by kernel_rfl) () ?_ [] ?_)))))))))))
  · simp_all [RV, idxF]
  · rfl

theorem iQueueAt_c (W : World) (list : List Entry) (list_a : Option Addr) (list_c : Nat) (hlist : Rd entryL W list_a list) (id : Int) : Spec Tryz.prog W [] 204 #[.slice list_a list.length list_c, vi id] (RV (vi (queueAt list id 0))) := by
 refine ENTER0 (N := 8) (vs := [.slice list_a list.length list_c, vi id]) Tryz.func204 rfl rfl (NL rfl) ?_
 have hlist_len := hlist.len
 refine SEQ (REGION [0, 1] rfl (RUL 2 [] [(3, .p 0 0)] [(3, [vi id])] (by kernel_rfl) rfl (ENDOPS (NEXT (SEQ (REGION [0, 1, 2, 3] rfl (RU 1 [1, 2, 3] [(5, .v (.slice list_a list.length list_c))] (by kernel_rfl) rfl (EXPORT (fun bs hbs => ?_)))))))))
 obtain ⟨b1, rfl⟩ := len1 hbs
 refine ASV (d := 3) rfl (RU 1 [2, 3] [(6, .v (.func (.func 218) #[] #[.pointer (some ⟨b1, 0, none⟩)]))] (by kernel_rfl) rfl (OPC (CALL 217 #[.slice list_a list.length list_c, .func (.func 218) #[] #[.pointer (some ⟨b1, 0, none⟩)]] (some 7) (by kernel_rfl) [] [] _ rfl (RV (vi (idxF (fun e : Entry => e.id == id) list 0))) (fun w hw => ixQueueAt_c w list list_a list_c (hlist.fr hw.fr) b1 id (ptC_elem (hw.own 0 rfl))) (NO rfl) ?_)))
 rintro ⟨⟩
 refine RU 1 [] [(4, I (idxF (fun e : Entry => e.id == id) list 0))] (by kernel_rfl) rfl (ENDOPS (IMPORT (L0 := [(3, [vi id])]) (L1 := []) [b1] rfl [0] _ rfl [(4, I (idxF (fun e : Entry => e.id == id) list 0))] (by kernel_rfl) (by kernel_rfl) (NEXT (RET (FIN (vi (idxF (fun e : Entry => e.id == id) list 0)) (by kernel_rfl) () ?_ [] ?_)))))
 · simp only [RV, queueAt_idx]
 · rfl

theorem iLevel_c (W : World) (r : Rules) (r_seats_a : Option Addr) (r_seats_c : Nat) (hr_seats : Rd intL W r_seats_a r.seats) (tier : Int) (waited : Int) : Spec Tryz.prog W [] 102 #[.agg #[.slice r_seats_a r.seats.length r_seats_c, vi r.tiers, vi r.room, vi r.size, vi r.period, vi r.window, vi r.rest, vi r.tries, vi r.crew], vi tier, vi waited] (RV (vi (levelI r tier waited))) := by
 refine ENTER0 (N := 28) (vs := [.agg #[.slice r_seats_a r.seats.length r_seats_c, vi r.tiers, vi r.room, vi r.size, vi r.period, vi r.window, vi r.rest, vi r.tries, vi r.crew], vi tier, vi waited]) Tryz.func102 rfl rfl (NL rfl) ?_
 have hr_seats_len := hr_seats.len
 refine SEQ (REGION [0, 1] rfl (RUL 2 [] [(3, .p 0 0)] [(31, [.slice r_seats_a r.seats.length r_seats_c, vi r.tiers, vi r.room, vi r.size, vi r.period, vi r.window, vi r.rest, vi r.tries, vi r.crew])] (by kernel_rfl) rfl (ENDOPS (NEXT (SEQ (SEQ (REGION [0, 1, 2, 3, 4, 5, 6, 7, 8, 9, 10, 11, 12, 13] rfl (RU 1 [1, 2, 3, 4, 5, 6, 7, 8, 9, 10, 11, 12, 13] [(7, .v (.agg #[.slice r_seats_a r.seats.length r_seats_c, vi r.tiers, vi r.room, vi r.size, vi r.period, vi r.window, vi r.rest, vi r.tries, vi r.crew]))] (by kernel_rfl) rfl (OPC (CALL 78 #[.agg #[.slice r_seats_a r.seats.length r_seats_c, vi r.tiers, vi r.room, vi r.size, vi r.period, vi r.window, vi r.rest, vi r.tries, vi r.crew]] (some 8) (by kernel_rfl) [] [] _ rfl (RV (.bool (rulesOk r))) (fun w hw => iRulesOk_c w r r_seats_a r_seats_c (hr_seats.fr hw.fr)) (NO rfl) ?_))))))))))
 rintro ⟨⟩
 refine RU 2 [4, 5, 6, 7, 8, 9, 10, 11, 12, 13] [(10, B (!(rulesOk r)))] (by kernel_rfl) rfl (SPLIT (d := 10) (!(rulesOk r)) (by kernel_rfl) (fun bh1 => ?_) (fun bh1 => ?_))
 ·
  have h1 := bh1
  have h1 := notT h1
  refine RU 10 [] [(20, B true)] (by kernel_rfl) rfl (ENDOPS (NEXT (IFT (by kernel_rfl) (SEQ (REGION [0] rfl (RU 1 [] [(6, I (-1))] (by kernel_rfl) rfl (ENDOPS (NEXT (RET (PASS trivial (FIN (vi (-1)) (by kernel_rfl) () ?_ [] ?_)))))))))))
  · (first | (simp_all [RV, levelI]; done) | (simp_all [RV, levelI, levelAt_max]; done))
  · rfl
 ·
  have h1 := bh1
  have h1 := notF h1
  have hper : 1 ≤ r.period := (by have h9 := h1; simp [rulesOk, inB] at h9; omega)
  refine RU 3 [7, 8, 9, 10, 11, 12, 13] [(11, I tier), (13, I r.tiers)] (by kernel_rfl) rfl (OPC (CALL 61 #[vi tier, vi r.tiers] (some 14) (by kernel_rfl) [] [] _ rfl (RV (.bool (inB tier 0 (wr (r.tiers - 1))))) (fun w hw => isIndex_c w tier r.tiers) (NO rfl) ?_))
  rintro ⟨⟩
  refine RU 3 [11, 12, 13] [(17, B (!(inB tier 0 (wr (r.tiers - 1)))))] (by kernel_rfl) rfl (SPLIT (d := 17) (!(inB tier 0 (wr (r.tiers - 1)))) (by kernel_rfl) (fun bh2 => ?_) (fun bh2 => ?_))
  ·
   have h2 := bh2
   have h2 := notT h2
   refine RU 3 [] [(20, B true)] (by kernel_rfl) rfl (ENDOPS (NEXT (IFT (by kernel_rfl) (SEQ (REGION [0] rfl (RU 1 [] [(6, I (-1))] (by kernel_rfl) rfl (ENDOPS (NEXT (RET (PASS trivial (FIN (vi (-1)) (by kernel_rfl) () ?_ [] ?_)))))))))))
   · (first | (simp_all [RV, levelI]; done) | (simp_all [RV, levelI, levelAt_max]; done))
   · rfl
  ·
   have h2 := bh2
   have h2 := notF h2
   refine RU 3 [] [(20, B (decide (waited < 0)))] (by kernel_rfl) rfl (ENDOPS (NEXT (IF (decide (waited < 0)) (by kernel_rfl) (fun bh3 => ?_) (fun bh3 => ?_))))
   ·
    have h3 := bh3
    have h3 := of_decide_eq_true h3
    refine SEQ (REGION [0] rfl (RU 1 [] [(6, I (-1))] (by kernel_rfl) rfl (ENDOPS (NEXT (RET (PASS trivial (FIN (vi (-1)) (by kernel_rfl) () ?_ [] ?_)))))))
    · (first | (simp_all [RV, levelI]; done) | (simp_all [RV, levelI, levelAt_max]; done))
    · rfl
   ·
    have h3 := bh3
    have h3 := of_decide_eq_false h3
    refine SKIP (NEXT (SEQ (REGION [0, 1, 2, 3, 4, 5, 6, 7] rfl (RU 4 [4, 5, 6, 7] [(21, I tier), (22, I waited), (24, I r.period)] (by kernel_rfl) rfl (OPC (RUNV (.binOp .quo 3 (.tmp 22) (.tmp 24) 3) 25 3 (by kernel_rfl) (NL rfl) (vi (wr (Int.tdiv waited r.period))) (runs_quo (a := waited) (b := r.period) (by kernel_rfl) (by kernel_rfl) (by omega)) (RU 3 [] [(6, I (if (wr (tier - (wr (Int.tdiv waited r.period)))) > 0 then (wr (tier - (wr (Int.tdiv waited r.period)))) else 0))] (by kernel_rfl) rfl (ENDOPS (NEXT (RET (FIN (vi (if (wr (tier - (wr (Int.tdiv waited r.period)))) > 0 then (wr (tier - (wr (Int.tdiv waited r.period)))) else 0)) (by kernel_rfl) () ?_ [] ?_)))))))))))
    · (first | (simp_all [RV, levelI]; done) | (simp_all [RV, levelI, levelAt_max]; done))
    · rfl

theorem iPartyOk_c (W : World) (r : Rules) (r_seats_a : Option Addr) (r_seats_c : Nat) (hr_seats : Rd intL W r_seats_a r.seats) (pa : Party) (now : Int) : Spec Tryz.prog W [] 80 #[.agg #[.slice r_seats_a r.seats.length r_seats_c, vi r.tiers, vi r.room, vi r.size, vi r.period, vi r.window, vi r.rest, vi r.tries, vi r.crew], .agg #[vi pa.id, vi pa.cabin, vi pa.from', vi pa.size, vi pa.tier, vi pa.since, vi pa.turn, vi pa.state, vi pa.until', vi pa.asked], vi now] (RV (.bool (partyOk r pa now))) := by
 refine ENTER0 (N := 108) (vs := [.agg #[.slice r_seats_a r.seats.length r_seats_c, vi r.tiers, vi r.room, vi r.size, vi r.period, vi r.window, vi r.rest, vi r.tries, vi r.crew], .agg #[vi pa.id, vi pa.cabin, vi pa.from', vi pa.size, vi pa.tier, vi pa.since, vi pa.turn, vi pa.state, vi pa.until', vi pa.asked], vi now]) Tryz.func80 rfl rfl (NL rfl) ?_
 have hr_seats_len := hr_seats.len
 refine SEQ (REGION [0, 1, 2] rfl (RUL 3 [] [(3, .p 0 0), (4, .p 1 0)] [(31, [.slice r_seats_a r.seats.length r_seats_c, vi r.tiers, vi r.room, vi r.size, vi r.period, vi r.window, vi r.rest, vi r.tries, vi r.crew]), (54, partyE pa)] (by kernel_rfl) rfl (ENDOPS (NEXT (SEQ (SEQ (REGION [0, 1, 2, 3, 4, 5, 6, 7, 8, 9, 10, 11, 12, 13, 14, 15, 16, 17, 18, 19, 20, 21, 22, 23, 24, 25, 26, 27, 28, 29, 30, 31, 32, 33, 34, 35, 36, 37, 38, 39] rfl (RU 1 [1, 2, 3, 4, 5, 6, 7, 8, 9, 10, 11, 12, 13, 14, 15, 16, 17, 18, 19, 20, 21, 22, 23, 24, 25, 26, 27, 28, 29, 30, 31, 32, 33, 34, 35, 36, 37, 38, 39] [(7, .v (.agg #[.slice r_seats_a r.seats.length r_seats_c, vi r.tiers, vi r.room, vi r.size, vi r.period, vi r.window, vi r.rest, vi r.tries, vi r.crew]))] (by kernel_rfl) rfl (OPC (CALL 78 #[.agg #[.slice r_seats_a r.seats.length r_seats_c, vi r.tiers, vi r.room, vi r.size, vi r.period, vi r.window, vi r.rest, vi r.tries, vi r.crew]] (some 8) (by kernel_rfl) [] [] _ rfl (RV (.bool (rulesOk r))) (fun w hw => iRulesOk_c w r r_seats_a r_seats_c (hr_seats.fr hw.fr)) (NO rfl) ?_))))))))))
 rintro ⟨⟩
 refine RU 2 [4, 5, 6, 7, 8, 9, 10, 11, 12, 13, 14, 15, 16, 17, 18, 19, 20, 21, 22, 23, 24, 25, 26, 27, 28, 29, 30, 31, 32, 33, 34, 35, 36, 37, 38, 39] [(10, B (!(rulesOk r)))] (by kernel_rfl) rfl (SPLIT (d := 10) (!(rulesOk r)) (by kernel_rfl) (fun bh1 => ?_) (fun bh1 => ?_))
 ·
  have h1 := bh1
  have h1 := notT h1
  refine RU 36 [] [(46, B true)] (by kernel_rfl) rfl (ENDOPS (NEXT (IFT (by kernel_rfl) (SEQ (REGION [0] rfl (RU 1 [] [(6, B false)] (by kernel_rfl) rfl (ENDOPS (NEXT (RET (PASS trivial (FIN (.bool false) (by kernel_rfl) () ?_ [] ?_)))))))))))
  · simp_all [RV, partyOk]
  · rfl
 ·
  have h1 := bh1
  have h1 := notF h1
  refine RU 1 [5, 6, 7, 8, 9, 10, 11, 12, 13, 14, 15, 16, 17, 18, 19, 20, 21, 22, 23, 24, 25, 26, 27, 28, 29, 30, 31, 32, 33, 34, 35, 36, 37, 38, 39] [(11, I now)] (by kernel_rfl) rfl (OPC (CALL 79 #[vi now, vi 0, vi 1000000] (some 12) (by kernel_rfl) [] [] _ rfl (RV (.bool (inB now 0 1000000))) (fun w hw => within_c w now 0 1000000) (NO rfl) ?_))
  rintro ⟨⟩
  refine RU 3 [9, 10, 11, 12, 13, 14, 15, 16, 17, 18, 19, 20, 21, 22, 23, 24, 25, 26, 27, 28, 29, 30, 31, 32, 33, 34, 35, 36, 37, 38, 39] [(15, B (!(inB now 0 1000000)))] (by kernel_rfl) rfl (SPLIT (d := 15) (!(inB now 0 1000000)) (by kernel_rfl) (fun bh2 => ?_) (fun bh2 => ?_))
  ·
   have h2 := bh2
   have h2 := notT h2
   refine RU 31 [] [(46, B true)] (by kernel_rfl) rfl (ENDOPS (NEXT (IFT (by kernel_rfl) (SEQ (REGION [0] rfl (RU 1 [] [(6, B false)] (by kernel_rfl) rfl (ENDOPS (NEXT (RET (PASS trivial (FIN (.bool false) (by kernel_rfl) () ?_ [] ?_)))))))))))
   · simp_all [RV, partyOk]
   · rfl
  ·
   have h2 := bh2
   have h2 := notF h2
   refine RU 2 [11, 12, 13, 14, 15, 16, 17, 18, 19, 20, 21, 22, 23, 24, 25, 26, 27, 28, 29, 30, 31, 32, 33, 34, 35, 36, 37, 38, 39] [(17, I pa.id)] (by kernel_rfl) rfl (OPC (CALL 79 #[vi pa.id, vi 1, vi 999] (some 18) (by kernel_rfl) [] [] _ rfl (RV (.bool (inB pa.id 1 999))) (fun w hw => within_c w pa.id 1 999) (NO rfl) ?_))
   rintro ⟨⟩
   refine RU 3 [15, 16, 17, 18, 19, 20, 21, 22, 23, 24, 25, 26, 27, 28, 29, 30, 31, 32, 33, 34, 35, 36, 37, 38, 39] [(21, B (!(inB pa.id 1 999)))] (by kernel_rfl) rfl (SPLIT (d := 21) (!(inB pa.id 1 999)) (by kernel_rfl) (fun bh3 => ?_) (fun bh3 => ?_))
   ·
    have h3 := bh3
    have h3 := notT h3
    refine RU 25 [] [(46, B true)] (by kernel_rfl) rfl (ENDOPS (NEXT (IFT (by kernel_rfl) (SEQ (REGION [0] rfl (RU 1 [] [(6, B false)] (by kernel_rfl) rfl (ENDOPS (NEXT (RET (PASS trivial (FIN (.bool false) (by kernel_rfl) () ?_ [] ?_)))))))))))
    · simp_all [RV, partyOk]
    · rfl
   ·
    have h3 := bh3
    have h3 := notF h3
    refine RU 5 [20, 21, 22, 23, 24, 25, 26, 27, 28, 29, 30, 31, 32, 33, 34, 35, 36, 37, 38, 39] [(23, I pa.cabin), (26, I (r.seats.length : Int))] (by kernel_rfl) rfl (OPC (CALL 61 #[vi pa.cabin, vi (r.seats.length : Int)] (some 27) (by kernel_rfl) [] [] _ rfl (RV (.bool (inB pa.cabin 0 (wr ((r.seats.length : Int) - 1))))) (fun w hw => isIndex_c w pa.cabin (r.seats.length : Int)) (NO rfl) ?_))
    rintro ⟨⟩
    refine RU 3 [24, 25, 26, 27, 28, 29, 30, 31, 32, 33, 34, 35, 36, 37, 38, 39] [(30, B (!(inB pa.cabin 0 (wr ((r.seats.length : Int) - 1)))))] (by kernel_rfl) rfl (SPLIT (d := 30) (!(inB pa.cabin 0 (wr ((r.seats.length : Int) - 1)))) (by kernel_rfl) (fun bh4 => ?_) (fun bh4 => ?_))
    ·
     have h4 := bh4
     have h4 := notT h4
     refine RU 16 [] [(46, B true)] (by kernel_rfl) rfl (ENDOPS (NEXT (IFT (by kernel_rfl) (SEQ (REGION [0] rfl (RU 1 [] [(6, B false)] (by kernel_rfl) rfl (ENDOPS (NEXT (RET (PASS trivial (FIN (.bool false) (by kernel_rfl) () ?_ [] ?_)))))))))))
     · simp_all [RV, partyOk]
     · rfl
    ·
     have h4 := bh4
     have h4 := notF h4
     refine RU 6 [30, 31, 32, 33, 34, 35, 36, 37, 38, 39] [(32, I pa.from'), (36, I (wr ((r.seats.length : Int) - 1)))] (by kernel_rfl) rfl (OPC (CALL 79 #[vi pa.from', vi (-1), vi (wr ((r.seats.length : Int) - 1))] (some 37) (by kernel_rfl) [] [] _ rfl (RV (.bool (inB pa.from' (-1) (wr ((r.seats.length : Int) - 1))))) (fun w hw => within_c w pa.from' (-1) (wr ((r.seats.length : Int) - 1))) (NO rfl) ?_))
     rintro ⟨⟩
     refine RU 3 [34, 35, 36, 37, 38, 39] [(40, B (!(inB pa.from' (-1) (wr ((r.seats.length : Int) - 1)))))] (by kernel_rfl) rfl (SPLIT (d := 40) (!(inB pa.from' (-1) (wr ((r.seats.length : Int) - 1)))) (by kernel_rfl) (fun bh5 => ?_) (fun bh5 => ?_))
     ·
      have h5 := bh5
      have h5 := notT h5
      refine RU 6 [] [(46, B true)] (by kernel_rfl) rfl (ENDOPS (NEXT (IFT (by kernel_rfl) (SEQ (REGION [0] rfl (RU 1 [] [(6, B false)] (by kernel_rfl) rfl (ENDOPS (NEXT (RET (PASS trivial (FIN (.bool false) (by kernel_rfl) () ?_ [] ?_)))))))))))
      · simp_all [RV, partyOk]
      · rfl
     ·
      have h5 := bh5
      have h5 := notF h5
      refine RU 6 [] [(46, B (pa.from' == pa.cabin))] (by kernel_rfl) rfl (ENDOPS (NEXT (IF (pa.from' == pa.cabin) (by kernel_rfl) (fun bh6 => ?_) (fun bh6 => ?_))))
      ·
       have h6 := bh6
       have h6 := eq_of_beq h6
       refine SEQ (REGION [0] rfl (RU 1 [] [(6, B false)] (by kernel_rfl) rfl (ENDOPS (NEXT (RET (PASS trivial (FIN (.bool false) (by kernel_rfl) () ?_ [] ?_)))))))
       · simp_all [RV, partyOk]
       · rfl
      ·
       have h6 := bh6
       have h6 := ne_of_beq_false h6
       refine SKIP (NEXT (SEQ (SEQ (REGION [0, 1, 2, 3, 4, 5, 6, 7, 8, 9, 10, 11, 12, 13, 14, 15, 16, 17, 18, 19, 20, 21, 22, 23, 24, 25, 26, 27, 28, 29, 30, 31, 32, 33, 34] rfl (RU 4 [4, 5, 6, 7, 8, 9, 10, 11, 12, 13, 14, 15, 16, 17, 18, 19, 20, 21, 22, 23, 24, 25, 26, 27, 28, 29, 30, 31, 32, 33, 34] [(48, I pa.size), (50, I r.size)] (by kernel_rfl) rfl (OPC (CALL 79 #[vi pa.size, vi 1, vi r.size] (some 51) (by kernel_rfl) [] [] _ rfl (RV (.bool (inB pa.size 1 r.size))) (fun w hw => within_c w pa.size 1 r.size) (NO rfl) ?_)))))))
       rintro ⟨⟩
       refine RU 2 [7, 8, 9, 10, 11, 12, 13, 14, 15, 16, 17, 18, 19, 20, 21, 22, 23, 24, 25, 26, 27, 28, 29, 30, 31, 32, 33, 34] [(53, B (!(inB pa.size 1 r.size)))] (by kernel_rfl) rfl (SPLIT (d := 53) (!(inB pa.size 1 r.size)) (by kernel_rfl) (fun bh7 => ?_) (fun bh7 => ?_))
       ·
        have h7 := bh7
        have h7 := notT h7
        refine RU 28 [] [(81, B true)] (by kernel_rfl) rfl (ENDOPS (NEXT (IFT (by kernel_rfl) (SEQ (REGION [0] rfl (RU 1 [] [(6, B false)] (by kernel_rfl) rfl (ENDOPS (NEXT (RET (PASS trivial (FIN (.bool false) (by kernel_rfl) () ?_ [] ?_)))))))))))
        · simp_all [RV, partyOk]
        · rfl
       ·
        have h7 := bh7
        have h7 := notF h7
        refine RU 4 [11, 12, 13, 14, 15, 16, 17, 18, 19, 20, 21, 22, 23, 24, 25, 26, 27, 28, 29, 30, 31, 32, 33, 34] [(55, I pa.tier), (57, I r.tiers)] (by kernel_rfl) rfl (OPC (CALL 61 #[vi pa.tier, vi r.tiers] (some 58) (by kernel_rfl) [] [] _ rfl (RV (.bool (inB pa.tier 0 (wr (r.tiers - 1))))) (fun w hw => isIndex_c w pa.tier r.tiers) (NO rfl) ?_))
        rintro ⟨⟩
        refine RU 3 [15, 16, 17, 18, 19, 20, 21, 22, 23, 24, 25, 26, 27, 28, 29, 30, 31, 32, 33, 34] [(61, B (!(inB pa.tier 0 (wr (r.tiers - 1)))))] (by kernel_rfl) rfl (SPLIT (d := 61) (!(inB pa.tier 0 (wr (r.tiers - 1)))) (by kernel_rfl) (fun bh8 => ?_) (fun bh8 => ?_))
        ·
         have h8 := bh8
         have h8 := notT h8
         refine RU 20 [] [(81, B true)] (by kernel_rfl) rfl (ENDOPS (NEXT (IFT (by kernel_rfl) (SEQ (REGION [0] rfl (RU 1 [] [(6, B false)] (by kernel_rfl) rfl (ENDOPS (NEXT (RET (PASS trivial (FIN (.bool false) (by kernel_rfl) () ?_ [] ?_)))))))))))
         · simp_all [RV, partyOk]
         · rfl
        ·
         have h8 := bh8
         have h8 := notF h8
         refine RU 3 [18, 19, 20, 21, 22, 23, 24, 25, 26, 27, 28, 29, 30, 31, 32, 33, 34] [(63, I pa.since), (64, I now)] (by kernel_rfl) rfl (OPC (CALL 79 #[vi pa.since, vi 0, vi now] (some 65) (by kernel_rfl) [] [] _ rfl (RV (.bool (inB pa.since 0 now))) (fun w hw => within_c w pa.since 0 now) (NO rfl) ?_))
         rintro ⟨⟩
         refine RU 3 [22, 23, 24, 25, 26, 27, 28, 29, 30, 31, 32, 33, 34] [(68, B (!(inB pa.since 0 now)))] (by kernel_rfl) rfl (SPLIT (d := 68) (!(inB pa.since 0 now)) (by kernel_rfl) (fun bh9 => ?_) (fun bh9 => ?_))
         ·
          have h9 := bh9
          have h9 := notT h9
          refine RU 13 [] [(81, B true)] (by kernel_rfl) rfl (ENDOPS (NEXT (IFT (by kernel_rfl) (SEQ (REGION [0] rfl (RU 1 [] [(6, B false)] (by kernel_rfl) rfl (ENDOPS (NEXT (RET (PASS trivial (FIN (.bool false) (by kernel_rfl) () ?_ [] ?_)))))))))))
          · simp_all [RV, partyOk]
          · rfl
         ·
          have h9 := bh9
          have h9 := notF h9
          refine RU 2 [24, 25, 26, 27, 28, 29, 30, 31, 32, 33, 34] [(70, I pa.turn)] (by kernel_rfl) rfl (OPC (CALL 79 #[vi pa.turn, vi 1, vi 1000000] (some 71) (by kernel_rfl) [] [] _ rfl (RV (.bool (inB pa.turn 1 1000000))) (fun w hw => within_c w pa.turn 1 1000000) (NO rfl) ?_))
          rintro ⟨⟩
          refine RU 3 [28, 29, 30, 31, 32, 33, 34] [(74, B (!(inB pa.turn 1 1000000)))] (by kernel_rfl) rfl (SPLIT (d := 74) (!(inB pa.turn 1 1000000)) (by kernel_rfl) (fun bh10 => ?_) (fun bh10 => ?_))
          ·
           have h10 := bh10
           have h10 := notT h10
           refine RU 7 [] [(81, B true)] (by kernel_rfl) rfl (ENDOPS (NEXT (IFT (by kernel_rfl) (SEQ (REGION [0] rfl (RU 1 [] [(6, B false)] (by kernel_rfl) rfl (ENDOPS (NEXT (RET (PASS trivial (FIN (.bool false) (by kernel_rfl) () ?_ [] ?_)))))))))))
           · simp_all [RV, partyOk]
           · rfl
          ·
           have h10 := bh10
           have h10 := notF h10
           refine RU 4 [32, 33, 34] [(76, I pa.asked), (78, I r.tries)] (by kernel_rfl) rfl (OPC (CALL 61 #[vi pa.asked, vi r.tries] (some 79) (by kernel_rfl) [] [] _ rfl (RV (.bool (inB pa.asked 0 (wr (r.tries - 1))))) (fun w hw => isIndex_c w pa.asked r.tries) (NO rfl) ?_))
           rintro ⟨⟩
           refine RU 2 [] [(81, B (!(inB pa.asked 0 (wr (r.tries - 1)))))] (by kernel_rfl) rfl (ENDOPS (NEXT (IF (!(inB pa.asked 0 (wr (r.tries - 1)))) (by kernel_rfl) (fun bh11 => ?_) (fun bh11 => ?_))))
           ·
            have h11 := bh11
            have h11 := notT h11
            refine SEQ (REGION [0] rfl (RU 1 [] [(6, B false)] (by kernel_rfl) rfl (ENDOPS (NEXT (RET (PASS trivial (FIN (.bool false) (by kernel_rfl) () ?_ [] ?_)))))))
            · simp_all [RV, partyOk]
            · rfl
           ·
            have h11 := bh11
            have h11 := notF h11
            refine SKIP (NEXT (SEQ (REGION [0, 1, 2, 3, 4, 5, 6, 7, 8, 9, 10, 11, 12, 13, 14, 15, 16, 17, 18, 19, 20, 21, 22, 23, 24, 25, 26] rfl (RU 4 [4, 5, 6, 7, 8, 9, 10, 11, 12, 13, 14, 15, 16, 17, 18, 19, 20, 21, 22, 23, 24, 25, 26] [(85, B (pa.state == 1))] (by kernel_rfl) rfl (SPLIT (d := 85) (pa.state == 1) (by kernel_rfl) (fun bh12 => ?_) (fun bh12 => ?_))))))
            ·
             have h12 := bh12
             have h12 := eq_of_beq h12
             refine RU 6 [10, 11, 12, 13, 14, 15, 16, 17, 18, 19, 20, 21, 22, 23, 24, 25, 26] [(87, I pa.until'), (91, I (wr (now + r.rest)))] (by kernel_rfl) rfl (OPC (CALL 79 #[vi pa.until', vi 0, vi (wr (now + r.rest))] (some 92) (by kernel_rfl) [] [] _ rfl (RV (.bool (inB pa.until' 0 (wr (now + r.rest))))) (fun w hw => within_c w pa.until' 0 (wr (now + r.rest))) (NO rfl) ?_))
             rintro ⟨⟩
             refine RU 2 [13, 14, 15, 16, 17, 18, 19, 20, 21, 22, 23, 24, 25, 26] [(94, B (inB pa.until' 0 (wr (now + r.rest))))] (by kernel_rfl) rfl (SPLIT (d := 94) (inB pa.until' 0 (wr (now + r.rest))) (by kernel_rfl) (fun bh13 => ?_) (fun bh13 => ?_))
             ·
              have h13 := bh13
              refine RU 14 [] [(6, B true)] (by kernel_rfl) rfl (ENDOPS (NEXT (RET (FIN (.bool true) (by kernel_rfl) () ?_ [] ?_))))
              · simp_all [RV, partyOk]
              · rfl
             ·
              have h13 := bh13
              refine RU 4 [17, 18, 19, 20, 21, 22, 23, 24, 25, 26] [(98, B (pa.state == 2))] (by kernel_rfl) rfl (SPLIT (d := 98) (pa.state == 2) (by kernel_rfl) (fun bh14 => ?_) (fun bh14 => ?_))
              · have bh14 := eq_of_beq bh14; exfalso; omega
              ·
               have h14 := bh14
               have h14 := ne_of_beq_false h14
               refine RU 10 [] [(6, B false)] (by kernel_rfl) rfl (ENDOPS (NEXT (RET (FIN (.bool false) (by kernel_rfl) () ?_ [] ?_))))
               · simp_all [RV, partyOk]
               · rfl
            ·
             have h12 := bh12
             have h12 := ne_of_beq_false h12
             refine RU 13 [17, 18, 19, 20, 21, 22, 23, 24, 25, 26] [(94, B false), (98, B (pa.state == 2))] (by kernel_rfl) rfl (SPLIT (d := 98) (pa.state == 2) (by kernel_rfl) (fun bh15 => ?_) (fun bh15 => ?_))
             ·
              have h15 := bh15
              have h15 := eq_of_beq h15
              refine RU 6 [23, 24, 25, 26] [(100, I pa.until'), (104, I (wr (now + r.window)))] (by kernel_rfl) rfl (OPC (CALL 79 #[vi pa.until', vi 1, vi (wr (now + r.window))] (some 105) (by kernel_rfl) [] [] _ rfl (RV (.bool (inB pa.until' 1 (wr (now + r.window))))) (fun w hw => within_c w pa.until' 1 (wr (now + r.window))) (NO rfl) ?_))
              rintro ⟨⟩
              refine RU 3 [] [(6, B (inB pa.until' 1 (wr (now + r.window))))] (by kernel_rfl) rfl (ENDOPS (NEXT (RET (FIN (.bool (inB pa.until' 1 (wr (now + r.window)))) (by kernel_rfl) () ?_ [] ?_))))
              · simp_all [RV, partyOk]
              · rfl
             ·
              have h15 := bh15
              have h15 := ne_of_beq_false h15
              refine RU 10 [] [(6, B false)] (by kernel_rfl) rfl (ENDOPS (NEXT (RET (FIN (.bool false) (by kernel_rfl) () ?_ [] ?_))))
              · simp_all [RV, partyOk]
              · rfl

theorem iLevelOf_c (W : World) (r : Rules) (r_seats_a : Option Addr) (r_seats_c : Nat) (hr_seats : Rd intL W r_seats_a r.seats) (pa : Party) (now : Int) : Spec Tryz.prog W [] 70 #[.agg #[.slice r_seats_a r.seats.length r_seats_c, vi r.tiers, vi r.room, vi r.size, vi r.period, vi r.window, vi r.rest, vi r.tries, vi r.crew], .agg #[vi pa.id, vi pa.cabin, vi pa.from', vi pa.size, vi pa.tier, vi pa.since, vi pa.turn, vi pa.state, vi pa.until', vi pa.asked], vi now] (RV (vi (levelOf r pa now))) := by
 refine ENTER0 (N := 20) (vs := [.agg #[.slice r_seats_a r.seats.length r_seats_c, vi r.tiers, vi r.room, vi r.size, vi r.period, vi r.window, vi r.rest, vi r.tries, vi r.crew], .agg #[vi pa.id, vi pa.cabin, vi pa.from', vi pa.size, vi pa.tier, vi pa.since, vi pa.turn, vi pa.state, vi pa.until', vi pa.asked], vi now]) Tryz.func70 rfl rfl (NL rfl) ?_
 have hr_seats_len := hr_seats.len
 refine SEQ (REGION [0, 1, 2] rfl (RUL 3 [] [(3, .p 0 0), (4, .p 1 0)] [(31, [.slice r_seats_a r.seats.length r_seats_c, vi r.tiers, vi r.room, vi r.size, vi r.period, vi r.window, vi r.rest, vi r.tries, vi r.crew]), (54, partyE pa)] (by kernel_rfl) rfl (ENDOPS (NEXT (SEQ (SEQ (REGION [0, 1, 2, 3, 4] rfl (RU 3 [3, 4] [(7, .v (.agg #[.slice r_seats_a r.seats.length r_seats_c, vi r.tiers, vi r.room, vi r.size, vi r.period, vi r.window, vi r.rest, vi r.tries, vi r.crew])), (8, .v (.agg (partyE pa).toArray)), (9, I now)] (by kernel_rfl) rfl (OPC (CALL 80 #[.agg #[.slice r_seats_a r.seats.length r_seats_c, vi r.tiers, vi r.room, vi r.size, vi r.period, vi r.window, vi r.rest, vi r.tries, vi r.crew], .agg #[vi pa.id, vi pa.cabin, vi pa.from', vi pa.size, vi pa.tier, vi pa.since, vi pa.turn, vi pa.state, vi pa.until', vi pa.asked], vi now] (some 10) (by kernel_rfl) [] [] _ rfl (RV (.bool (partyOk r pa now))) (fun w hw => iPartyOk_c w r r_seats_a r_seats_c (hr_seats.fr hw.fr) pa now) (NO rfl) ?_))))))))))
 rintro ⟨⟩
 refine RU 1 [] [(11, B (!(partyOk r pa now)))] (by kernel_rfl) rfl (ENDOPS (NEXT (IF (!(partyOk r pa now)) (by kernel_rfl) (fun bh1 => ?_) (fun bh1 => ?_))))
 ·
  have h1 := bh1
  have h1 := notT h1
  refine SEQ (REGION [0] rfl (RU 1 [] [(6, I (-1))] (by kernel_rfl) rfl (ENDOPS (NEXT (RET (PASS trivial (FIN (vi (-1)) (by kernel_rfl) () ?_ [] ?_)))))))
  · (first | (simp_all [RV, levelOf, levelI_of]; done))
  · rfl
 ·
  have h1 := bh1
  have h1 := notF h1
  refine SKIP (NEXT (SEQ (REGION [0, 1, 2, 3, 4, 5, 6, 7, 8] rfl (RU 7 [7, 8] [(12, .v (.agg #[.slice r_seats_a r.seats.length r_seats_c, vi r.tiers, vi r.room, vi r.size, vi r.period, vi r.window, vi r.rest, vi r.tries, vi r.crew])), (14, I pa.tier), (18, I (wr (now - pa.since)))] (by kernel_rfl) rfl (OPC (CALL 102 #[.agg #[.slice r_seats_a r.seats.length r_seats_c, vi r.tiers, vi r.room, vi r.size, vi r.period, vi r.window, vi r.rest, vi r.tries, vi r.crew], vi pa.tier, vi (wr (now - pa.since))] (some 19) (by kernel_rfl) [] [] _ rfl (RV (vi (levelI r pa.tier (wr (now - pa.since))))) (fun w hw => iLevel_c w r r_seats_a r_seats_c (hr_seats.fr hw.fr) pa.tier (wr (now - pa.since))) (NO rfl) ?_))))))
  rintro ⟨⟩
  refine RU 1 [] [(6, I (levelI r pa.tier (wr (now - pa.since))))] (by kernel_rfl) rfl (ENDOPS (NEXT (RET (FIN (vi (levelI r pa.tier (wr (now - pa.since)))) (by kernel_rfl) () ?_ [] ?_))))
  · (first | (simp_all [RV, levelOf, levelI_of]; done))
  · rfl

theorem iEntryOf_c (W : World) (r : Rules) (r_seats_a : Option Addr) (r_seats_c : Nat) (hr_seats : Rd intL W r_seats_a r.seats) (pa : Party) (now : Int) : Spec Tryz.prog W [] 131 #[.agg #[.slice r_seats_a r.seats.length r_seats_c, vi r.tiers, vi r.room, vi r.size, vi r.period, vi r.window, vi r.rest, vi r.tries, vi r.crew], .agg #[vi pa.id, vi pa.cabin, vi pa.from', vi pa.size, vi pa.tier, vi pa.since, vi pa.turn, vi pa.state, vi pa.until', vi pa.asked], vi now] (RV (.tuple #[.agg #[vi ((entryOf r pa now).level), vi ((entryOf r pa now).turn), vi ((entryOf r pa now).id), vi ((entryOf r pa now).size)], .bool (entryOk r pa now)])) := by
 refine ENTER0 (N := 30) (vs := [.agg #[.slice r_seats_a r.seats.length r_seats_c, vi r.tiers, vi r.room, vi r.size, vi r.period, vi r.window, vi r.rest, vi r.tries, vi r.crew], .agg #[vi pa.id, vi pa.cabin, vi pa.from', vi pa.size, vi pa.tier, vi pa.since, vi pa.turn, vi pa.state, vi pa.until', vi pa.asked], vi now]) Tryz.func131 rfl rfl (NL rfl) ?_
 have hr_seats_len := hr_seats.len
 refine SEQ (REGION [0, 1, 2, 3] rfl (RUL 4 [] [(3, .p 0 0), (4, .p 1 0), (6, .p 2 0)] [(31, [.slice r_seats_a r.seats.length r_seats_c, vi r.tiers, vi r.room, vi r.size, vi r.period, vi r.window, vi r.rest, vi r.tries, vi r.crew]), (54, partyE pa), (114, [vi 0, vi 0, vi 0, vi 0])] (by kernel_rfl) rfl (ENDOPS (NEXT (SEQ (SEQ (REGION [0, 1, 2, 3, 4, 5, 6, 7, 8, 9] rfl (RU 3 [3, 4, 5, 6, 7, 8, 9] [(8, .v (.agg #[.slice r_seats_a r.seats.length r_seats_c, vi r.tiers, vi r.room, vi r.size, vi r.period, vi r.window, vi r.rest, vi r.tries, vi r.crew])), (9, .v (.agg (partyE pa).toArray)), (10, I now)] (by kernel_rfl) rfl (OPC (CALL 80 #[.agg #[.slice r_seats_a r.seats.length r_seats_c, vi r.tiers, vi r.room, vi r.size, vi r.period, vi r.window, vi r.rest, vi r.tries, vi r.crew], .agg #[vi pa.id, vi pa.cabin, vi pa.from', vi pa.size, vi pa.tier, vi pa.since, vi pa.turn, vi pa.state, vi pa.until', vi pa.asked], vi now] (some 11) (by kernel_rfl) [] [] _ rfl (RV (.bool (partyOk r pa now))) (fun w hw => iPartyOk_c w r r_seats_a r_seats_c (hr_seats.fr hw.fr) pa now) (NO rfl) ?_))))))))))
 rintro ⟨⟩
 refine RU 2 [6, 7, 8, 9] [(13, B (!(partyOk r pa now)))] (by kernel_rfl) rfl (SPLIT (d := 13) (!(partyOk r pa now)) (by kernel_rfl) (fun bh1 => ?_) (fun bh1 => ?_))
 ·
  have h1 := bh1
  have h1 := notT h1
  refine RU 4 [] [(17, B true)] (by kernel_rfl) rfl (ENDOPS (NEXT (IFT (by kernel_rfl) (SEQ (REGION [0, 1, 2] rfl (RU 3 [] [(7, B false)] (by kernel_rfl) rfl (ENDOPS (NEXT (RET (PASS trivial (FIN (.tuple #[.agg #[vi 0, vi 0, vi 0, vi 0], .bool false]) (by kernel_rfl) () ?_ [] ?_)))))))))))
  · simp_all [RV, entryOf, entryOk_iff]
  · rfl
 ·
  have h1 := bh1
  have h1 := notF h1
  refine RU 4 [] [(17, B (pa.state != 1))] (by kernel_rfl) rfl (ENDOPS (NEXT (IF (pa.state != 1) (by kernel_rfl) (fun bh2 => ?_) (fun bh2 => ?_))))
  ·
   have h2 := bh2
   have h2 := bne_iff_ne.1 h2
   refine SEQ (REGION [0, 1, 2] rfl (RU 3 [] [(7, B false)] (by kernel_rfl) rfl (ENDOPS (NEXT (RET (PASS trivial (FIN (.tuple #[.agg #[vi 0, vi 0, vi 0, vi 0], .bool false]) (by kernel_rfl) () ?_ [] ?_)))))))
   · simp_all [RV, entryOf, entryOk_iff]
   · rfl
  ·
   have h2 := bh2
   have h2 := bneF h2
   refine SKIP (NEXT (SEQ (EXPORT (fun bs hbs => ?_))))
   obtain ⟨b3, b4, b5, rfl⟩ := len3 hbs
   refine REGIONH (by kernel_rfl) 13 rfl [ptC b3 31 [.slice r_seats_a r.seats.length r_seats_c, vi r.tiers, vi r.room, vi r.size, vi r.period, vi r.window, vi r.rest, vi r.tries, vi r.crew], ptC b4 54 [vi pa.id, vi pa.cabin, vi pa.from', vi pa.size, vi pa.tier, vi pa.since, vi pa.turn, vi pa.state, vi pa.until', vi pa.asked]] (HLOADE (i := 0) (js := [0, 0])  31 (.tmp 3) 19 31 (by kernel_rfl) (NL rfl) (some ⟨b3, 0, none⟩) 0 0 ([.slice r_seats_a r.seats.length r_seats_c, vi r.tiers, vi r.room, vi r.size, vi r.period, vi r.window, vi r.rest, vi r.tries, vi r.crew]) (.agg #[.slice r_seats_a r.seats.length r_seats_c, vi r.tiers, vi r.room, vi r.size, vi r.period, vi r.window, vi r.rest, vi r.tries, vi r.crew]) (by kernel_rfl) (fun w hw => ptC_elem (hw.own 0 rfl)) (by kernel_rfl) (by kernel_rfl) rfl (HLOADE (i := 1) (js := [0, 0])  54 (.tmp 4) 20 54 (by kernel_rfl) (NL rfl) (some ⟨b4, 0, none⟩) 0 0 (partyE pa) (.agg (partyE pa).toArray) (by kernel_rfl) (fun w hw => ptC_elem (hw.own 1 rfl)) (by kernel_rfl) (by kernel_rfl) rfl (HPU (js := [0, 0]) 2 [(21, I now)] (by kernel_rfl) (by kernel_rfl) rfl (HPU (js := [0, 0]) 4 [(23, .e (some ⟨b4, 0, none⟩) 0 6)] (by kernel_rfl) (by kernel_rfl) rfl (HLOADE (i := 5) (js := [0, 0])  3 (.tmp 23) 24 3 (by kernel_rfl) (NL rfl) (some ⟨b4, 0, none⟩) 0 6 (partyE pa) (vi pa.turn) (by kernel_rfl) (fun w hw => ptC_elem (hw.own 1 rfl)) (by kernel_rfl) (by kernel_rfl) rfl (HPU (js := [0, 0]) 6 [(25, .e (some ⟨b4, 0, none⟩) 0 0)] (by kernel_rfl) (by kernel_rfl) rfl ?_))))))
   refine HLOADE (i := 7) (js := [0, 0])  3 (.tmp 25) 26 3 (by kernel_rfl) (NL rfl) (some ⟨b4, 0, none⟩) 0 0 (partyE pa) (vi pa.id) (by kernel_rfl) (fun w hw => ptC_elem (hw.own 1 rfl)) (by kernel_rfl) (by kernel_rfl) rfl (HPU (js := [0, 0]) 8 [(27, .e (some ⟨b4, 0, none⟩) 0 3)] (by kernel_rfl) (by kernel_rfl) rfl (HLOADE (i := 9) (js := [0, 0])  3 (.tmp 27) 28 3 (by kernel_rfl) (NL rfl) (some ⟨b4, 0, none⟩) 0 3 (partyE pa) (vi pa.size) (by kernel_rfl) (fun w hw => ptC_elem (hw.own 1 rfl)) (by kernel_rfl) (by kernel_rfl) rfl (HALL [3] (by kernel_rfl) (by decide) (CALL 70 #[.agg #[.slice r_seats_a r.seats.length r_seats_c, vi r.tiers, vi r.room, vi r.size, vi r.period, vi r.window, vi r.rest, vi r.tries, vi r.crew], .agg #[vi pa.id, vi pa.cabin, vi pa.from', vi pa.size, vi pa.tier, vi pa.since, vi pa.turn, vi pa.state, vi pa.until', vi pa.asked], vi now] (some 22) (by kernel_rfl) [] [] _ rfl (RV (vi (levelOf r pa now))) (fun w hw => iLevelOf_c w r r_seats_a r_seats_c (hr_seats.fr hw.fr) pa now) (NO rfl) ?_))))
   rintro ⟨⟩
   refine HKEEP (js := [0, 0]) rfl (HPU (js := [0, 0]) 10 [(29, .v (.agg #[vi (levelOf r pa now), vi pa.turn, vi pa.id, vi pa.size]))] (by kernel_rfl) (by kernel_rfl) rfl (HALL [11] (by kernel_rfl) (by decide) (STOREC 114 (.tmp 6) (.tmp 29) 0 (by kernel_rfl) 2 _ b5 0 114 [vi 0, vi 0, vi 0, vi 0] [vi (levelOf r pa now), vi pa.turn, vi pa.id, vi pa.size] rfl (.agg #[vi (levelOf r pa now), vi pa.turn, vi pa.id, vi pa.size]) (by kernel_rfl) (by kernel_rfl) (by kernel_rfl) (HKEEP (js := [0, 0]) rfl (HPU (js := [0, 0]) 12 [(7, B true)] (by kernel_rfl) (by kernel_rfl) rfl (HEND (by kernel_rfl) (IMPORT (L0 := [(31, [.slice r_seats_a r.seats.length r_seats_c, vi r.tiers, vi r.room, vi r.size, vi r.period, vi r.window, vi r.rest, vi r.tries, vi r.crew]), (54, partyE pa), (114, [vi (levelOf r pa now), vi pa.turn, vi pa.id, vi pa.size])]) (L1 := []) [b3, b4, b5] rfl [0, 0, 0] _ rfl [(6, .p 2 0), (7, B true)] (by kernel_rfl) (by kernel_rfl) (NEXT (RET (FIN (.tuple #[.agg #[vi (levelOf r pa now), vi pa.turn, vi pa.id, vi pa.size], .bool true]) (by kernel_rfl) () ?_ [] ?_))))))))))
   · simp_all [RV, entryOf, entryOk_iff]
   · rfl

theorem iCountIn_c (W : World) (list : List Party) (list_a : Option Addr) (list_c : Nat) (hlist : Rd partyL W list_a list) (cabin : Int) : Spec Tryz.prog W [] 81 #[.slice list_a list.length list_c, vi cabin] (RV (vi (countGo list cabin 0))) := by
 refine ENTER0 (N := 22) (vs := [.slice list_a list.length list_c, vi cabin]) Tryz.func81 rfl rfl (NL rfl) ?_
 have hlist_len := hlist.len
 refine SEQ (REGION [0] rfl (RU 1 [] [] (by kernel_rfl) rfl (ENDOPS (NEXT (SEQ (REGION [0] rfl (RU 1 [] [(5, I 0)] (by kernel_rfl) rfl (ENDOPS (NEXT (SEQ (SEQ (REGION [0, 1, 2] rfl (RU 3 [] [(8, .v (.slice list_a list.length list_c)), (9, I (list.length : Int)), (10, I 0)] (by kernel_rfl) rfl (ENDOPS (NEXT (BLOCK (LOOP (ι := Nat × (List Party) × Int) (fun j => [(1, I cabin), (5, I j.2.2), (8, .v (.slice list_a list.length list_c)), (9, I (list.length : Int)), (10, I (j.1 : Int))]) (fun j => []) (fun j => []) (fun j => j.1 + j.2.1.length = list.length ∧ list.drop j.1 = j.2.1 ∧ countGo list cabin 0 = countGo j.2.1 cabin j.2.2) (fun j => j.2.1.length) (0, list, 0) [1, 5, 8, 9, 10] ⟨by simp, rfl, rfl⟩ (by kernel_rfl) rfl rfl ?_)))))))))))))))))
 rintro ⟨k, ys, n⟩ ⟨hk, hd, hv0⟩
 try dsimp only at hk hd hv0
 refine SEQ (REGION [0] rfl (RU 1 [] [(11, B (decide ((k : Int) < (list.length : Int))))] (by kernel_rfl) rfl (ENDOPS (NEXT (SEQ (IF (decide ((k : Int) < (list.length : Int))) (by kernel_rfl) (fun bh1 => ?_) (fun bh1 => ?_)))))))
 ·
  have h1 := bh1
  have h1 := of_decide_eq_true h1
  obtain ⟨y2, ys3, rfl, hx_y2, hd_y2, hl_y2⟩ := drop_cons hd hk (by omega)
  refine SKIP (NEXT (SEQ (BLOCK (SEQ (REGION [0, 1, 2, 3] rfl (OPC (INDEX 32 (.tmp 8) (.tmp 10) 12 0 (by kernel_rfl) (NL rfl) list_a list.length list_c .i64 (k : Int) 54 10 (by kernel_rfl) (by kernel_rfl) (by kernel_rfl) (by kernel_rfl) (Rd.some hlist (by omega)) (by omega) (by omega) (OPC (LOADE 54 (.tmp 12) 13 54 (by kernel_rfl) (NL rfl) list_a (k * 10) 0 (partyE y2) (.agg (partyE y2).toArray) (by kernel_rfl) (fun w hw => (hlist.fr hw.fr).flat hx_y2) (by kernel_rfl) (RUL 2 [] [(7, .p 0 0)] [(54, partyE y2)] (by kernel_rfl) rfl (ENDOPS (NEXT (SEQ (REGION [0, 1, 2, 3] rfl (RU 4 [] [(17, B (y2.cabin == cabin))] (by kernel_rfl) rfl (ENDOPS (NEXT (IF (y2.cabin == cabin) (by kernel_rfl) (fun bh4 => ?_) (fun bh4 => ?_)))))))))))))))))))
  ·
   have h4 := bh4
   have h4 := eq_of_beq h4
   refine REGION [0, 1, 2] rfl (RU 3 [] [(5, I (wr (n + 1)))] (by kernel_rfl) rfl (ENDOPS (OUTN (NEXT (REGION [0, 1] rfl (RU 1 [1] [(20, I (wr ((k : Int) + 1)))] (by kernel_rfl) rfl (CAST (d := 20) (vi (wr ((k : Int) + 1))) (vi ((k + 1 : Nat) : Int)) (by kernel_rfl) (vi_cast (by omega) (by omega)) (RU 1 [] [(10, I ((k + 1 : Nat) : Int))] (by kernel_rfl) rfl (ENDOPS (BACK (k + 1, ys3, wr (n + 1)) [1, 5, 8, 9, 10] 0 [] _ ⟨hl_y2, hd_y2, (hv0.trans (by simp_all [countGo]))⟩ (by simp) (by kernel_rfl) rfl rfl rfl))))))))))
  ·
   have h4 := bh4
   have h4 := ne_of_beq_false h4
   refine SKIP (OUTN (NEXT (REGION [0, 1] rfl (RU 1 [1] [(20, I (wr ((k : Int) + 1)))] (by kernel_rfl) rfl (CAST (d := 20) (vi (wr ((k : Int) + 1))) (vi ((k + 1 : Nat) : Int)) (by kernel_rfl) (vi_cast (by omega) (by omega)) (RU 1 [] [(10, I ((k + 1 : Nat) : Int))] (by kernel_rfl) rfl (ENDOPS (BACK (k + 1, ys3, n) [1, 5, 8, 9, 10] 0 [] _ ⟨hl_y2, hd_y2, (hv0.trans (by simp_all [countGo]))⟩ (by simp) (by kernel_rfl) rfl rfl rfl))))))))
 ·
  have h1 := bh1
  have h1 := of_decide_eq_false h1
  obtain rfl := drop_nil hk (by omega)
  refine EXIT (PASS trivial (PASS trivial (OUT (NEXT (SEQ (REGION [0, 1] rfl (RU 2 [] [(4, I n)] (by kernel_rfl) rfl (ENDOPS (NEXT (RET (FIN (vi n) (by kernel_rfl) () ?_ [] ?_)))))))))))
  · simp_all [RV, countGo]
  · rfl

theorem iHeldIn_c (W : World) (list : List Party) (list_a : Option Addr) (list_c : Nat) (hlist : Rd partyL W list_a list) (cabin : Int) : Spec Tryz.prog W [] 121 #[.slice list_a list.length list_c, vi cabin] (RV (vi (heldGo list cabin 0))) := by
 refine ENTER0 (N := 34) (vs := [.slice list_a list.length list_c, vi cabin]) Tryz.func121 rfl rfl (NL rfl) ?_
 have hlist_len := hlist.len
 refine SEQ (REGION [0] rfl (RU 1 [] [] (by kernel_rfl) rfl (ENDOPS (NEXT (SEQ (REGION [0] rfl (RU 1 [] [(5, I 0)] (by kernel_rfl) rfl (ENDOPS (NEXT (SEQ (SEQ (REGION [0, 1, 2] rfl (RU 3 [] [(8, .v (.slice list_a list.length list_c)), (9, I (list.length : Int)), (10, I 0)] (by kernel_rfl) rfl (ENDOPS (NEXT (BLOCK (LOOP (ι := Nat × (List Party) × Int) (fun j => [(1, I cabin), (5, I j.2.2), (8, .v (.slice list_a list.length list_c)), (9, I (list.length : Int)), (10, I (j.1 : Int))]) (fun j => []) (fun j => []) (fun j => j.1 + j.2.1.length = list.length ∧ list.drop j.1 = j.2.1 ∧ heldGo list cabin 0 = heldGo j.2.1 cabin j.2.2) (fun j => j.2.1.length) (0, list, 0) [1, 5, 8, 9, 10] ⟨by simp, rfl, rfl⟩ (by kernel_rfl) rfl rfl ?_)))))))))))))))))
 rintro ⟨k, ys, n⟩ ⟨hk, hd, hv0⟩
 try dsimp only at hk hd hv0
 refine SEQ (REGION [0] rfl (RU 1 [] [(11, B (decide ((k : Int) < (list.length : Int))))] (by kernel_rfl) rfl (ENDOPS (NEXT (SEQ (IF (decide ((k : Int) < (list.length : Int))) (by kernel_rfl) (fun bh1 => ?_) (fun bh1 => ?_)))))))
 ·
  have h1 := bh1
  have h1 := of_decide_eq_true h1
  obtain ⟨y2, ys3, rfl, hx_y2, hd_y2, hl_y2⟩ := drop_cons hd hk (by omega)
  refine SKIP (NEXT (SEQ (BLOCK (SEQ (REGION [0, 1, 2, 3] rfl (OPC (INDEX 32 (.tmp 8) (.tmp 10) 12 0 (by kernel_rfl) (NL rfl) list_a list.length list_c .i64 (k : Int) 54 10 (by kernel_rfl) (by kernel_rfl) (by kernel_rfl) (by kernel_rfl) (Rd.some hlist (by omega)) (by omega) (by omega) (OPC (LOADE 54 (.tmp 12) 13 54 (by kernel_rfl) (NL rfl) list_a (k * 10) 0 (partyE y2) (.agg (partyE y2).toArray) (by kernel_rfl) (fun w hw => (hlist.fr hw.fr).flat hx_y2) (by kernel_rfl) (RUL 2 [] [(7, .p 0 0)] [(54, partyE y2)] (by kernel_rfl) rfl (ENDOPS (NEXT (SEQ (REGION [0, 1, 2, 3, 4, 5, 6, 7, 8, 9, 10, 11, 12, 13] rfl (RU 4 [4, 5, 6, 7, 8, 9, 10, 11, 12, 13] [(17, B (y2.state == 2))] (by kernel_rfl) rfl (SPLIT (d := 17) (y2.state == 2) (by kernel_rfl) (fun bh4 => ?_) (fun bh4 => ?_)))))))))))))))))
  ·
   have h4 := bh4
   have h4 := eq_of_beq h4
   refine RU 6 [10, 11, 12, 13] [(23, B (y2.cabin == cabin))] (by kernel_rfl) rfl (SPLIT (d := 23) (y2.cabin == cabin) (by kernel_rfl) (fun bh5 => ?_) (fun bh5 => ?_))
   ·
    have h5 := bh5
    have h5 := eq_of_beq h5
    refine RU 2 [12, 13] [(25, I y2.size)] (by kernel_rfl) rfl (OPC (CALL 79 #[vi y2.size, vi 1, vi 6] (some 26) (by kernel_rfl) [] [] _ rfl (RV (.bool (inB y2.size 1 6))) (fun w hw => within_c w y2.size 1 6) (NO rfl) ?_))
    rintro ⟨⟩
    refine RU 1 [] [(27, B (inB y2.size 1 6))] (by kernel_rfl) rfl (ENDOPS (NEXT (IF (inB y2.size 1 6) (by kernel_rfl) (fun bh6 => ?_) (fun bh6 => ?_))))
    ·
     have h6 := bh6
     refine REGION [0, 1, 2, 3, 4] rfl (RU 5 [] [(5, I (wr (n + y2.size)))] (by kernel_rfl) rfl (ENDOPS (OUTN (NEXT (REGION [0, 1] rfl (RU 1 [1] [(32, I (wr ((k : Int) + 1)))] (by kernel_rfl) rfl (CAST (d := 32) (vi (wr ((k : Int) + 1))) (vi ((k + 1 : Nat) : Int)) (by kernel_rfl) (vi_cast (by omega) (by omega)) (RU 1 [] [(10, I ((k + 1 : Nat) : Int))] (by kernel_rfl) rfl (ENDOPS (BACK (k + 1, ys3, wr (n + y2.size)) [1, 5, 8, 9, 10] 0 [] _ ⟨hl_y2, hd_y2, (hv0.trans (by simp_all [heldGo]))⟩ (by simp) (by kernel_rfl) rfl rfl rfl))))))))))
    ·
     have h6 := bh6
     refine SKIP (OUTN (NEXT (REGION [0, 1] rfl (RU 1 [1] [(32, I (wr ((k : Int) + 1)))] (by kernel_rfl) rfl (CAST (d := 32) (vi (wr ((k : Int) + 1))) (vi ((k + 1 : Nat) : Int)) (by kernel_rfl) (vi_cast (by omega) (by omega)) (RU 1 [] [(10, I ((k + 1 : Nat) : Int))] (by kernel_rfl) rfl (ENDOPS (BACK (k + 1, ys3, n) [1, 5, 8, 9, 10] 0 [] _ ⟨hl_y2, hd_y2, (hv0.trans (by simp_all [heldGo]))⟩ (by simp) (by kernel_rfl) rfl rfl rfl))))))))
   ·
    have h5 := bh5
    have h5 := ne_of_beq_false h5
    refine RU 4 [] [(27, B false)] (by kernel_rfl) rfl (ENDOPS (NEXT (IFF (by kernel_rfl) (SKIP (OUTN (NEXT (REGION [0, 1] rfl (RU 1 [1] [(32, I (wr ((k : Int) + 1)))] (by kernel_rfl) rfl (CAST (d := 32) (vi (wr ((k : Int) + 1))) (vi ((k + 1 : Nat) : Int)) (by kernel_rfl) (vi_cast (by omega) (by omega)) (RU 1 [] [(10, I ((k + 1 : Nat) : Int))] (by kernel_rfl) rfl (ENDOPS (BACK (k + 1, ys3, n) [1, 5, 8, 9, 10] 0 [] _ ⟨hl_y2, hd_y2, (hv0.trans (by simp_all [heldGo]))⟩ (by simp) (by kernel_rfl) rfl rfl rfl))))))))))))
  ·
   have h4 := bh4
   have h4 := ne_of_beq_false h4
   refine RU 10 [] [(27, B false)] (by kernel_rfl) rfl (ENDOPS (NEXT (IFF (by kernel_rfl) (SKIP (OUTN (NEXT (REGION [0, 1] rfl (RU 1 [1] [(32, I (wr ((k : Int) + 1)))] (by kernel_rfl) rfl (CAST (d := 32) (vi (wr ((k : Int) + 1))) (vi ((k + 1 : Nat) : Int)) (by kernel_rfl) (vi_cast (by omega) (by omega)) (RU 1 [] [(10, I ((k + 1 : Nat) : Int))] (by kernel_rfl) rfl (ENDOPS (BACK (k + 1, ys3, n) [1, 5, 8, 9, 10] 0 [] _ ⟨hl_y2, hd_y2, (hv0.trans (by simp_all [heldGo]))⟩ (by simp) (by kernel_rfl) rfl rfl rfl))))))))))))
 ·
  have h1 := bh1
  have h1 := of_decide_eq_false h1
  obtain rfl := drop_nil hk (by omega)
  refine EXIT (PASS trivial (PASS trivial (OUT (NEXT (SEQ (REGION [0, 1] rfl (RU 2 [] [(4, I n)] (by kernel_rfl) rfl (ENDOPS (NEXT (RET (FIN (vi n) (by kernel_rfl) () ?_ [] ?_)))))))))))
  · simp_all [RV, heldGo]
  · rfl

theorem iTiedIn_c (W : World) (list : List Party) (list_a : Option Addr) (list_c : Nat) (hlist : Rd partyL W list_a list) (cabin : Int) : Spec Tryz.prog W [] 122 #[.slice list_a list.length list_c, vi cabin] (RV (vi (tiedGo list cabin 0))) := by
 refine ENTER0 (N := 29) (vs := [.slice list_a list.length list_c, vi cabin]) Tryz.func122 rfl rfl (NL rfl) ?_
 have hlist_len := hlist.len
 refine SEQ (REGION [0] rfl (RU 1 [] [] (by kernel_rfl) rfl (ENDOPS (NEXT (SEQ (REGION [0] rfl (RU 1 [] [(5, I 0)] (by kernel_rfl) rfl (ENDOPS (NEXT (SEQ (SEQ (REGION [0, 1, 2] rfl (RU 3 [] [(8, .v (.slice list_a list.length list_c)), (9, I (list.length : Int)), (10, I 0)] (by kernel_rfl) rfl (ENDOPS (NEXT (BLOCK (LOOP (ι := Nat × (List Party) × Int) (fun j => [(1, I cabin), (5, I j.2.2), (8, .v (.slice list_a list.length list_c)), (9, I (list.length : Int)), (10, I (j.1 : Int))]) (fun j => []) (fun j => []) (fun j => j.1 + j.2.1.length = list.length ∧ list.drop j.1 = j.2.1 ∧ tiedGo list cabin 0 = tiedGo j.2.1 cabin j.2.2) (fun j => j.2.1.length) (0, list, 0) [1, 5, 8, 9, 10] ⟨by simp, rfl, rfl⟩ (by kernel_rfl) rfl rfl ?_)))))))))))))))))
 rintro ⟨k, ys, n⟩ ⟨hk, hd, hv0⟩
 try dsimp only at hk hd hv0
 refine SEQ (REGION [0] rfl (RU 1 [] [(11, B (decide ((k : Int) < (list.length : Int))))] (by kernel_rfl) rfl (ENDOPS (NEXT (SEQ (IF (decide ((k : Int) < (list.length : Int))) (by kernel_rfl) (fun bh1 => ?_) (fun bh1 => ?_)))))))
 ·
  have h1 := bh1
  have h1 := of_decide_eq_true h1
  obtain ⟨y2, ys3, rfl, hx_y2, hd_y2, hl_y2⟩ := drop_cons hd hk (by omega)
  refine SKIP (NEXT (SEQ (BLOCK (SEQ (REGION [0, 1, 2, 3] rfl (OPC (INDEX 32 (.tmp 8) (.tmp 10) 12 0 (by kernel_rfl) (NL rfl) list_a list.length list_c .i64 (k : Int) 54 10 (by kernel_rfl) (by kernel_rfl) (by kernel_rfl) (by kernel_rfl) (Rd.some hlist (by omega)) (by omega) (by omega) (OPC (LOADE 54 (.tmp 12) 13 54 (by kernel_rfl) (NL rfl) list_a (k * 10) 0 (partyE y2) (.agg (partyE y2).toArray) (by kernel_rfl) (fun w hw => (hlist.fr hw.fr).flat hx_y2) (by kernel_rfl) (RUL 2 [] [(7, .p 0 0)] [(54, partyE y2)] (by kernel_rfl) rfl (ENDOPS (NEXT (SEQ (REGION [0, 1, 2, 3, 4, 5, 6, 7, 8] rfl (RU 5 [5, 6, 7, 8] [(18, B (y2.from' == cabin))] (by kernel_rfl) rfl (SPLIT (d := 18) (y2.from' == cabin) (by kernel_rfl) (fun bh4 => ?_) (fun bh4 => ?_)))))))))))))))))
  ·
   have h4 := bh4
   have h4 := eq_of_beq h4
   refine RU 2 [7, 8] [(20, I y2.size)] (by kernel_rfl) rfl (OPC (CALL 79 #[vi y2.size, vi 1, vi 6] (some 21) (by kernel_rfl) [] [] _ rfl (RV (.bool (inB y2.size 1 6))) (fun w hw => within_c w y2.size 1 6) (NO rfl) ?_))
   rintro ⟨⟩
   refine RU 1 [] [(22, B (inB y2.size 1 6))] (by kernel_rfl) rfl (ENDOPS (NEXT (IF (inB y2.size 1 6) (by kernel_rfl) (fun bh5 => ?_) (fun bh5 => ?_))))
   ·
    have h5 := bh5
    refine REGION [0, 1, 2, 3, 4] rfl (RU 5 [] [(5, I (wr (n + y2.size)))] (by kernel_rfl) rfl (ENDOPS (OUTN (NEXT (REGION [0, 1] rfl (RU 1 [1] [(27, I (wr ((k : Int) + 1)))] (by kernel_rfl) rfl (CAST (d := 27) (vi (wr ((k : Int) + 1))) (vi ((k + 1 : Nat) : Int)) (by kernel_rfl) (vi_cast (by omega) (by omega)) (RU 1 [] [(10, I ((k + 1 : Nat) : Int))] (by kernel_rfl) rfl (ENDOPS (BACK (k + 1, ys3, wr (n + y2.size)) [1, 5, 8, 9, 10] 0 [] _ ⟨hl_y2, hd_y2, (hv0.trans (by simp_all [tiedGo]))⟩ (by simp) (by kernel_rfl) rfl rfl rfl))))))))))
   ·
    have h5 := bh5
    refine SKIP (OUTN (NEXT (REGION [0, 1] rfl (RU 1 [1] [(27, I (wr ((k : Int) + 1)))] (by kernel_rfl) rfl (CAST (d := 27) (vi (wr ((k : Int) + 1))) (vi ((k + 1 : Nat) : Int)) (by kernel_rfl) (vi_cast (by omega) (by omega)) (RU 1 [] [(10, I ((k + 1 : Nat) : Int))] (by kernel_rfl) rfl (ENDOPS (BACK (k + 1, ys3, n) [1, 5, 8, 9, 10] 0 [] _ ⟨hl_y2, hd_y2, (hv0.trans (by simp_all [tiedGo]))⟩ (by simp) (by kernel_rfl) rfl rfl rfl))))))))
  ·
   have h4 := bh4
   have h4 := ne_of_beq_false h4
   refine RU 4 [] [(22, B false)] (by kernel_rfl) rfl (ENDOPS (NEXT (IFF (by kernel_rfl) (SKIP (OUTN (NEXT (REGION [0, 1] rfl (RU 1 [1] [(27, I (wr ((k : Int) + 1)))] (by kernel_rfl) rfl (CAST (d := 27) (vi (wr ((k : Int) + 1))) (vi ((k + 1 : Nat) : Int)) (by kernel_rfl) (vi_cast (by omega) (by omega)) (RU 1 [] [(10, I ((k + 1 : Nat) : Int))] (by kernel_rfl) rfl (ENDOPS (BACK (k + 1, ys3, n) [1, 5, 8, 9, 10] 0 [] _ ⟨hl_y2, hd_y2, (hv0.trans (by simp_all [tiedGo]))⟩ (by simp) (by kernel_rfl) rfl rfl rfl))))))))))))
 ·
  have h1 := bh1
  have h1 := of_decide_eq_false h1
  obtain rfl := drop_nil hk (by omega)
  refine EXIT (PASS trivial (PASS trivial (OUT (NEXT (SEQ (REGION [0, 1] rfl (RU 2 [] [(4, I n)] (by kernel_rfl) rfl (ENDOPS (NEXT (RET (FIN (vi n) (by kernel_rfl) () ?_ [] ?_)))))))))))
  · simp_all [RV, tiedGo]
  · rfl

end SX
end Go.Proofs.YtgbfemglimebdaaGreat
