/- Walks, printed by program. -/
import Derived.Test.YtcjaeedkhlnegaaRows
import Derived.Test.YtcjaeedkhlnegaaMdl1
import Derived.Test.YtcjaeedkhlnegaaSx7
namespace Go.Proofs.Ytcjaeedkhlnegaa
namespace SX
open Go Go.RowKit
set_option linter.unusedVariables false
set_option linter.unusedSimpArgs false
set_option maxRecDepth 10000
theorem l1In_c (W : World) (x : Int) (lo : Int) (hi : Int) : Spec Try.prog W [] 25 #[vi x, vi lo, vi hi] (RV (.bool (inB x lo hi))) := by
  refine ENTER0 (N := 15) (vs := [vi x, vi lo, vi hi]) Try.func25 rfl rfl (Nat.le_of_ble_eq_true rfl) ?_
  refine SEQ (REGION [0] rfl (RUN0 1 [] [(0, I x), (1, I lo), (2, I hi)] ?_ rfl ?_))
  · as_aux_lemma => kernel_rfl
  refine ENDOPS (NEXT (SEQ (REGION [0, 1, 2, 3, 4, 5, 6, 7, 8] rfl (RUN0 4 [4, 5, 6, 7, 8] [(0, I x), (2, I hi), (10, B (decide (x ≥ lo)))] ?_ rfl ?_))))
  · as_aux_lemma => kernel_rfl
  refine SPLIT (d := 10) (decide (x ≥ lo)) ?_ (fun bh1 => ?_) (fun bh1 => ?_)
  · as_aux_lemma => kernel_rfl
  · -- decide (x ≥ lo) = true
    have h1 := bh1
    have h1 := of_decide_eq_true h1
    refine RUN0 5 [] [(6, B (decide (x ≤ hi)))] ?_ rfl ?_
    · as_aux_lemma => kernel_rfl
    refine ENDOPS (NEXT (RET (FIN (.bool (decide (x ≤ hi))) ?_ () ?_ [] ?_)))
    · as_aux_lemma => kernel_rfl
    · simp [RV, inB, *]
    · rfl
  · -- decide (x ≥ lo) = false
    have h1 := bh1
    have h1 := of_decide_eq_false h1
    refine RUN0 5 [] [(6, B false)] ?_ rfl ?_
    · as_aux_lemma => kernel_rfl
    refine ENDOPS (NEXT (RET (FIN (.bool false) ?_ () ?_ [] ?_)))
    · as_aux_lemma => kernel_rfl
    · simp [RV, inB, *]
    · rfl

theorem within_c (W : World) (n : Int) (lo : Int) (hi : Int) : Spec Try.prog W [] 26 #[vi n, vi lo, vi hi] (RV (.bool (inB n lo hi))) := by
  refine ENTER0 (N := 15) (vs := [vi n, vi lo, vi hi]) Try.func26 rfl rfl (Nat.le_of_ble_eq_true rfl) ?_
  refine SEQ (REGION [0] rfl (RUN0 1 [] [(0, I n), (1, I lo), (2, I hi)] ?_ rfl ?_))
  · as_aux_lemma => kernel_rfl
  refine ENDOPS (NEXT (SEQ (REGION [0, 1, 2, 3, 4, 5, 6, 7, 8] rfl (RUN0 4 [4, 5, 6, 7, 8] [(0, I n), (2, I hi), (10, B (decide (n ≥ lo)))] ?_ rfl ?_))))
  · as_aux_lemma => kernel_rfl
  refine SPLIT (d := 10) (decide (n ≥ lo)) ?_ (fun bh1 => ?_) (fun bh1 => ?_)
  · as_aux_lemma => kernel_rfl
  · -- decide (n ≥ lo) = true
    have h1 := bh1
    have h1 := of_decide_eq_true h1
    refine RUN0 5 [] [(6, B (decide (n ≤ hi)))] ?_ rfl ?_
    · as_aux_lemma => kernel_rfl
    refine ENDOPS (NEXT (RET (FIN (.bool (decide (n ≤ hi))) ?_ () ?_ [] ?_)))
    · as_aux_lemma => kernel_rfl
    · simp [RV, inB, *]
    · rfl
  · -- decide (n ≥ lo) = false
    have h1 := bh1
    have h1 := of_decide_eq_false h1
    refine RUN0 5 [] [(6, B false)] ?_ rfl ?_
    · as_aux_lemma => kernel_rfl
    refine ENDOPS (NEXT (RET (FIN (.bool false) ?_ () ?_ [] ?_)))
    · as_aux_lemma => kernel_rfl
    · simp [RV, inB, *]
    · rfl

theorem szIntS_c (W : World) (a : List Int) (a_a : Option Addr) (a_c : Nat) (ha : Rd intL W a_a a) (left : Int) : Spec Try.prog W [] 27 #[.slice a_a a.length a_c, vi left] (RV (vi (szInts a left))) := by
  refine ENTER0 (N := 12) (vs := [.slice a_a a.length a_c, vi left]) Try.func27 rfl rfl (Nat.le_of_ble_eq_true rfl) ?_
  have ha_len := ha.len
  refine SEQ (REGION [0] rfl (RUN0 1 [] [(0, .v (.slice a_a a.length a_c)), (1, I left)] ?_ rfl ?_))
  · as_aux_lemma => kernel_rfl
  refine ENDOPS (NEXT (SEQ (REGION [0, 1, 2, 3, 4] rfl (RUN0 5 [] [(1, I (wr (left - (a.length : Int))))] ?_ rfl ?_))))
  · as_aux_lemma => kernel_rfl
  refine ENDOPS (NEXT (SEQ (SEQ (REGION [0, 1] rfl (RUN0 2 [] [(1, I (wr (left - (a.length : Int)))), (10, B (decide ((wr (left - (a.length : Int))) < 0)))] ?_ rfl ?_)))))
  · as_aux_lemma => kernel_rfl
  refine ENDOPS (NEXT (IF (decide ((wr (left - (a.length : Int))) < 0)) ?_ (fun bh1 => ?_) (fun bh1 => ?_)))
  · as_aux_lemma => kernel_rfl
  · -- decide ((wr (left - (a.length : Int))) < 0) = true
    have h1 := bh1
    have h1 := of_decide_eq_true h1
    refine SEQ (REGION [0] rfl (RUN0 1 [] [(4, I (-1))] ?_ rfl ?_))
    · as_aux_lemma => kernel_rfl
    refine ENDOPS (NEXT (RET (PASS trivial (FIN (vi (-1)) ?_ () ?_ [] ?_))))
    · as_aux_lemma => kernel_rfl
    · simp [RV, szInts, *]
    · rfl
  · -- decide ((wr (left - (a.length : Int))) < 0) = false
    have h1 := bh1
    have h1 := of_decide_eq_false h1
    refine SKIP (NEXT (SEQ (REGION [0, 1] rfl (RUN0 2 [] [(4, I (wr (left - (a.length : Int))))] ?_ rfl ?_))))
    · as_aux_lemma => kernel_rfl
    refine ENDOPS (NEXT (RET (FIN (vi (wr (left - (a.length : Int)))) ?_ () ?_ [] ?_)))
    · as_aux_lemma => kernel_rfl
    · simp [RV, szInts, *]
    · rfl

theorem iRulesOk_c (W : World) (r : Rules) (r_seats_a : Option Addr) (r_seats_c : Nat) (hr_seats : Rd intL W r_seats_a r.seats) : Spec Try.prog W [] 30 #[.agg #[.slice r_seats_a r.seats.length r_seats_c, vi r.tiers, vi r.room, vi r.size, vi r.period, vi r.window, vi r.rest, vi r.tries, vi r.crew]] (RV (.bool (rulesOk r))) := by
  refine ENTER0 (N := 59) (vs := [.agg #[.slice r_seats_a r.seats.length r_seats_c, vi r.tiers, vi r.room, vi r.size, vi r.period, vi r.window, vi r.rest, vi r.tries, vi r.crew]]) Try.func30 rfl rfl (Nat.le_of_ble_eq_true rfl) ?_
  have hr_seats_len := hr_seats.len
  refine SEQ (REGION [0, 1] rfl (RUN 2 [] [(1, .p 0 0)] [(29, [.slice r_seats_a r.seats.length r_seats_c, vi r.tiers, vi r.room, vi r.size, vi r.period, vi r.window, vi r.rest, vi r.tries, vi r.crew])] ?_ rfl ?_))
  · as_aux_lemma => kernel_rfl
  refine ENDOPS (NEXT (SEQ (SEQ (REGION [0, 1, 2, 3, 4] rfl (RUN0 3 [3, 4] [(1, .p 0 0), (7, I (r.seats.length : Int))] ?_ rfl ?_)))))
  · as_aux_lemma => kernel_rfl
  refine OPC (CALL 26 #[vi (r.seats.length : Int), vi 1, vi 4] (some 8) ?_ [] [] _ rfl (RV (.bool (inB (r.seats.length : Int) 1 4))) (fun w hw => within_c w (r.seats.length : Int) 1 4) (by rintro _ ⟨⟩; exact Nat.le_of_ble_eq_true rfl) ?_)
  · as_aux_lemma => kernel_rfl
  rintro ⟨⟩
  refine RUN0 1 [] [(1, .p 0 0), (9, B (!(inB (r.seats.length : Int) 1 4)))] ?_ rfl ?_
  · as_aux_lemma => kernel_rfl
  refine ENDOPS (NEXT (IF (!(inB (r.seats.length : Int) 1 4)) ?_ (fun bh1 => ?_) (fun bh1 => ?_)))
  · as_aux_lemma => kernel_rfl
  · -- !(inB (r.seats.length : Int) 1 4) = true
    have h1 := bh1
    have h1 := notT h1
    refine SEQ (REGION [0] rfl (RUN0 1 [] [(2, B false)] ?_ rfl ?_))
    · as_aux_lemma => kernel_rfl
    refine ENDOPS (NEXT (RET (PASS trivial (FIN (.bool false) ?_ () ?_ [] ?_))))
    · as_aux_lemma => kernel_rfl
    · simp [RV, rulesOk, allSeats, *]
    · rfl
  · -- !(inB (r.seats.length : Int) 1 4) = false
    have h1 := bh1
    have h1 := notF h1
    refine SKIP (NEXT (SEQ (SEQ (REGION [0, 1, 2, 3] rfl (RUN0 4 [] [(1, .p 0 0), (11, .v (.slice r_seats_a r.seats.length r_seats_c)), (12, I (r.seats.length : Int)), (13, I 0)] ?_ rfl ?_)))))
    · as_aux_lemma => kernel_rfl
    refine ENDOPS (NEXT (BLOCK (LOOP (ι := Nat × (List Int)) (fun j => [(1, .p 0 0), (11, .v (.slice r_seats_a r.seats.length r_seats_c)), (12, I (r.seats.length : Int)), (13, I (j.1 : Int))]) (fun j => [(29, [.slice r_seats_a r.seats.length r_seats_c, vi r.tiers, vi r.room, vi r.size, vi r.period, vi r.window, vi r.rest, vi r.tries, vi r.crew])]) (fun j => []) (fun j => j.1 + j.2.length = r.seats.length ∧ r.seats.drop j.1 = j.2 ∧ allSeats r.seats = allSeats j.2) (fun j => j.2.length) (0, r.seats) [1, 11, 12, 13] ⟨by simp, rfl, rfl⟩ ?_ rfl rfl ?_)))
    · as_aux_lemma => kernel_rfl
    rintro ⟨k, ys⟩ ⟨hk, hd, hv0⟩
    dsimp only at hk hd hv0
    refine SEQ (REGION [0] rfl (RUN0 1 [] [(1, .p 0 0), (11, .v (.slice r_seats_a r.seats.length r_seats_c)), (12, I (r.seats.length : Int)), (13, I (k : Int)), (14, B (decide ((k : Int) < (r.seats.length : Int))))] ?_ rfl ?_))
    · as_aux_lemma => kernel_rfl
    refine ENDOPS (NEXT (SEQ (IF (decide ((k : Int) < (r.seats.length : Int))) ?_ (fun bh2 => ?_) (fun bh2 => ?_))))
    · as_aux_lemma => kernel_rfl
    · -- decide ((k : Int) < (r.seats.length : Int)) = true
      have h2 := bh2
      have h2 := of_decide_eq_true h2
      obtain ⟨y3, ys4, rfl, hx_y3, hd_y3, hl_y3⟩ := drop_cons hd hk (by omega)
      refine SKIP (NEXT (SEQ (BLOCK (SEQ (REGION [0, 1, 2] rfl (OPC (INDEX 24 (.tmp 11) (.tmp 13) 15 0 ?_ (Nat.le_of_ble_eq_true rfl) r_seats_a r.seats.length r_seats_c .i64 (k : Int) 3 1 ?_ ?_ ?_ ?_ (Rd.some hr_seats (by omega)) (by omega) (by omega) ?_)))))))
      · as_aux_lemma => kernel_rfl
      · as_aux_lemma => kernel_rfl
      · as_aux_lemma => kernel_rfl
      · as_aux_lemma => kernel_rfl
      · as_aux_lemma => kernel_rfl
      refine OPC (LOADE 3 (.tmp 15) 16 3 ?_ (Nat.le_of_ble_eq_true rfl) r_seats_a (k * 1) 0 [vi y3] (vi y3) ?_ (fun w hw => (hr_seats.fr hw.fr).flat hx_y3) ?_ ?_)
      · as_aux_lemma => kernel_rfl
      · as_aux_lemma => kernel_rfl
      · as_aux_lemma => kernel_rfl
      refine RUN0 1 [] [(1, .p 0 0), (4, I y3), (11, .v (.slice r_seats_a r.seats.length r_seats_c)), (12, I (r.seats.length : Int)), (13, I (k : Int))] ?_ rfl ?_
      · as_aux_lemma => kernel_rfl
      refine ENDOPS (NEXT (SEQ (REGION [0, 1, 2] rfl (RUN0 1 [1, 2] [(1, .p 0 0), (11, .v (.slice r_seats_a r.seats.length r_seats_c)), (12, I (r.seats.length : Int)), (13, I (k : Int)), (17, I y3)] ?_ rfl ?_))))
      · as_aux_lemma => kernel_rfl
      refine OPC (CALL 26 #[vi y3, vi 1, vi 60] (some 18) ?_ [] [] _ rfl (RV (.bool (inB y3 1 60))) (fun w hw => within_c w y3 1 60) (by rintro _ ⟨⟩; exact Nat.le_of_ble_eq_true rfl) ?_)
      · as_aux_lemma => kernel_rfl
      rintro ⟨⟩
      refine RUN0 1 [] [(1, .p 0 0), (11, .v (.slice r_seats_a r.seats.length r_seats_c)), (12, I (r.seats.length : Int)), (13, I (k : Int)), (19, B (!(inB y3 1 60)))] ?_ rfl ?_
      · as_aux_lemma => kernel_rfl
      refine ENDOPS (NEXT (IF (!(inB y3 1 60)) ?_ (fun bh5 => ?_) (fun bh5 => ?_)))
      · as_aux_lemma => kernel_rfl
      · -- !(inB y3 1 60) = true
        have h5 := bh5
        have h5 := notT h5
        refine SEQ (REGION [0] rfl (RUN0 1 [] [(2, B false)] ?_ rfl ?_))
        · as_aux_lemma => kernel_rfl
        refine ENDOPS (NEXT (RET (OUTR (PASS trivial (PASS trivial (OUTR (PASS trivial (FIN (.bool false) ?_ () ?_ [] ?_))))))))
        · as_aux_lemma => kernel_rfl
        · simp [RV, rulesOk, allSeats, *]
        · rfl
      · -- !(inB y3 1 60) = false
        have h5 := bh5
        have h5 := notF h5
        refine SKIP (OUTN (NEXT (REGION [0, 1] rfl (RUN0 1 [1] [(1, .p 0 0), (11, .v (.slice r_seats_a r.seats.length r_seats_c)), (12, I (r.seats.length : Int)), (20, I (wr ((k : Int) + 1)))] ?_ rfl ?_))))
        · as_aux_lemma => kernel_rfl
        refine CAST (d := 20) (vi (wr ((k : Int) + 1))) (vi ((k + 1 : Nat) : Int)) ?_ (vi_cast (by omega) (by omega)) ?_
        · as_aux_lemma => kernel_rfl
        refine RUN0 1 [] [(1, .p 0 0), (11, .v (.slice r_seats_a r.seats.length r_seats_c)), (12, I (r.seats.length : Int)), (13, I ((k + 1 : Nat) : Int))] ?_ rfl ?_
        · as_aux_lemma => kernel_rfl
        refine ENDOPS (BACK (k + 1, ys4) [1, 11, 12, 13] 1 [] _ ⟨hl_y3, hd_y3, hv0.trans (by simp [allSeats, *])⟩ (by simp) ?_ rfl rfl rfl)
        · as_aux_lemma => kernel_rfl
    · -- decide ((k : Int) < (r.seats.length : Int)) = false
      have h2 := bh2
      have h2 := of_decide_eq_false h2
      obtain rfl := drop_nil hk (by omega)
      refine EXIT (PASS trivial (PASS trivial (OUT (NEXT (SEQ (REGION [0, 1, 2, 3, 4, 5, 6, 7, 8, 9, 10, 11, 12, 13, 14, 15, 16, 17, 18, 19, 20, 21, 22, 23, 24, 25, 26, 27, 28, 29, 30, 31, 32, 33, 34, 35, 36, 37, 38] rfl (RUN0 2 [2, 3, 4, 5, 6, 7, 8, 9, 10, 11, 12, 13, 14, 15, 16, 17, 18, 19, 20, 21, 22, 23, 24, 25, 26, 27, 28, 29, 30, 31, 32, 33, 34, 35, 36, 37, 38] [(1, .p 0 0), (22, I r.tiers)] ?_ rfl ?_)))))))
      · as_aux_lemma => kernel_rfl
      refine OPC (CALL 26 #[vi r.tiers, vi 1, vi 5] (some 23) ?_ [] [] _ rfl (RV (.bool (inB r.tiers 1 5))) (fun w hw => within_c w r.tiers 1 5) (by rintro _ ⟨⟩; exact Nat.le_of_ble_eq_true rfl) ?_)
      · as_aux_lemma => kernel_rfl
      rintro ⟨⟩
      refine RUN0 1 [4, 5, 6, 7, 8, 9, 10, 11, 12, 13, 14, 15, 16, 17, 18, 19, 20, 21, 22, 23, 24, 25, 26, 27, 28, 29, 30, 31, 32, 33, 34, 35, 36, 37, 38] [(1, .p 0 0), (24, B (inB r.tiers 1 5))] ?_ rfl ?_
      · as_aux_lemma => kernel_rfl
      refine SPLIT (d := 24) (inB r.tiers 1 5) ?_ (fun bh6 => ?_) (fun bh6 => ?_)
      · as_aux_lemma => kernel_rfl
      · -- inB r.tiers 1 5 = true
        have h6 := bh6
        refine RUN0 2 [6, 7, 8, 9, 10, 11, 12, 13, 14, 15, 16, 17, 18, 19, 20, 21, 22, 23, 24, 25, 26, 27, 28, 29, 30, 31, 32, 33, 34, 35, 36, 37, 38] [(1, .p 0 0), (24, B true), (26, I r.room)] ?_ rfl ?_
        · as_aux_lemma => kernel_rfl
        refine OPC (CALL 26 #[vi r.room, vi 1, vi 10] (some 27) ?_ [] [] _ rfl (RV (.bool (inB r.room 1 10))) (fun w hw => within_c w r.room 1 10) (by rintro _ ⟨⟩; exact Nat.le_of_ble_eq_true rfl) ?_)
        · as_aux_lemma => kernel_rfl
        rintro ⟨⟩
        refine RUN0 2 [9, 10, 11, 12, 13, 14, 15, 16, 17, 18, 19, 20, 21, 22, 23, 24, 25, 26, 27, 28, 29, 30, 31, 32, 33, 34, 35, 36, 37, 38] [(1, .p 0 0), (29, B (inB r.room 1 10))] ?_ rfl ?_
        · as_aux_lemma => kernel_rfl
        refine SPLIT (d := 29) (inB r.room 1 10) ?_ (fun bh7 => ?_) (fun bh7 => ?_)
        · as_aux_lemma => kernel_rfl
        · -- inB r.room 1 10 = true
          have h7 := bh7
          refine RUN0 2 [11, 12, 13, 14, 15, 16, 17, 18, 19, 20, 21, 22, 23, 24, 25, 26, 27, 28, 29, 30, 31, 32, 33, 34, 35, 36, 37, 38] [(1, .p 0 0), (29, B true), (31, I r.size)] ?_ rfl ?_
          · as_aux_lemma => kernel_rfl
          refine OPC (CALL 26 #[vi r.size, vi 1, vi 6] (some 32) ?_ [] [] _ rfl (RV (.bool (inB r.size 1 6))) (fun w hw => within_c w r.size 1 6) (by rintro _ ⟨⟩; exact Nat.le_of_ble_eq_true rfl) ?_)
          · as_aux_lemma => kernel_rfl
          rintro ⟨⟩
          refine RUN0 2 [14, 15, 16, 17, 18, 19, 20, 21, 22, 23, 24, 25, 26, 27, 28, 29, 30, 31, 32, 33, 34, 35, 36, 37, 38] [(1, .p 0 0), (34, B (inB r.size 1 6))] ?_ rfl ?_
          · as_aux_lemma => kernel_rfl
          refine SPLIT (d := 34) (inB r.size 1 6) ?_ (fun bh8 => ?_) (fun bh8 => ?_)
          · as_aux_lemma => kernel_rfl
          · -- inB r.size 1 6 = true
            have h8 := bh8
            refine RUN0 2 [16, 17, 18, 19, 20, 21, 22, 23, 24, 25, 26, 27, 28, 29, 30, 31, 32, 33, 34, 35, 36, 37, 38] [(1, .p 0 0), (34, B true), (36, I r.period)] ?_ rfl ?_
            · as_aux_lemma => kernel_rfl
            refine OPC (CALL 26 #[vi r.period, vi 1, vi 12] (some 37) ?_ [] [] _ rfl (RV (.bool (inB r.period 1 12))) (fun w hw => within_c w r.period 1 12) (by rintro _ ⟨⟩; exact Nat.le_of_ble_eq_true rfl) ?_)
            · as_aux_lemma => kernel_rfl
            rintro ⟨⟩
            refine RUN0 2 [19, 20, 21, 22, 23, 24, 25, 26, 27, 28, 29, 30, 31, 32, 33, 34, 35, 36, 37, 38] [(1, .p 0 0), (39, B (inB r.period 1 12))] ?_ rfl ?_
            · as_aux_lemma => kernel_rfl
            refine SPLIT (d := 39) (inB r.period 1 12) ?_ (fun bh9 => ?_) (fun bh9 => ?_)
            · as_aux_lemma => kernel_rfl
            · -- inB r.period 1 12 = true
              have h9 := bh9
              refine RUN0 2 [21, 22, 23, 24, 25, 26, 27, 28, 29, 30, 31, 32, 33, 34, 35, 36, 37, 38] [(1, .p 0 0), (39, B true), (41, I r.window)] ?_ rfl ?_
              · as_aux_lemma => kernel_rfl
              refine OPC (CALL 26 #[vi r.window, vi 1, vi 8] (some 42) ?_ [] [] _ rfl (RV (.bool (inB r.window 1 8))) (fun w hw => within_c w r.window 1 8) (by rintro _ ⟨⟩; exact Nat.le_of_ble_eq_true rfl) ?_)
              · as_aux_lemma => kernel_rfl
              rintro ⟨⟩
              refine RUN0 2 [24, 25, 26, 27, 28, 29, 30, 31, 32, 33, 34, 35, 36, 37, 38] [(1, .p 0 0), (44, B (inB r.window 1 8))] ?_ rfl ?_
              · as_aux_lemma => kernel_rfl
              refine SPLIT (d := 44) (inB r.window 1 8) ?_ (fun bh10 => ?_) (fun bh10 => ?_)
              · as_aux_lemma => kernel_rfl
              · -- inB r.window 1 8 = true
                have h10 := bh10
                refine RUN0 2 [26, 27, 28, 29, 30, 31, 32, 33, 34, 35, 36, 37, 38] [(1, .p 0 0), (44, B true), (46, I r.tries)] ?_ rfl ?_
                · as_aux_lemma => kernel_rfl
                refine OPC (CALL 26 #[vi r.tries, vi 1, vi 4] (some 47) ?_ [] [] _ rfl (RV (.bool (inB r.tries 1 4))) (fun w hw => within_c w r.tries 1 4) (by rintro _ ⟨⟩; exact Nat.le_of_ble_eq_true rfl) ?_)
                · as_aux_lemma => kernel_rfl
                rintro ⟨⟩
                refine RUN0 2 [29, 30, 31, 32, 33, 34, 35, 36, 37, 38] [(1, .p 0 0), (49, B (inB r.tries 1 4))] ?_ rfl ?_
                · as_aux_lemma => kernel_rfl
                refine SPLIT (d := 49) (inB r.tries 1 4) ?_ (fun bh11 => ?_) (fun bh11 => ?_)
                · as_aux_lemma => kernel_rfl
                · -- inB r.tries 1 4 = true
                  have h11 := bh11
                  refine RUN0 2 [31, 32, 33, 34, 35, 36, 37, 38] [(1, .p 0 0), (49, B true), (51, I r.crew)] ?_ rfl ?_
                  · as_aux_lemma => kernel_rfl
                  refine OPC (CALL 26 #[vi r.crew, vi 1, vi 3] (some 52) ?_ [] [] _ rfl (RV (.bool (inB r.crew 1 3))) (fun w hw => within_c w r.crew 1 3) (by rintro _ ⟨⟩; exact Nat.le_of_ble_eq_true rfl) ?_)
                  · as_aux_lemma => kernel_rfl
                  rintro ⟨⟩
                  refine RUN0 2 [34, 35, 36, 37, 38] [(1, .p 0 0), (54, B (inB r.crew 1 3))] ?_ rfl ?_
                  · as_aux_lemma => kernel_rfl
                  refine SPLIT (d := 54) (inB r.crew 1 3) ?_ (fun bh12 => ?_) (fun bh12 => ?_)
                  · as_aux_lemma => kernel_rfl
                  · -- inB r.crew 1 3 = true
                    have h12 := bh12
                    refine RUN0 2 [36, 37, 38] [(54, B true), (56, I r.rest)] ?_ rfl ?_
                    · as_aux_lemma => kernel_rfl
                    refine OPC (CALL 26 #[vi r.rest, vi 0, vi 8] (some 57) ?_ [] [] _ rfl (RV (.bool (inB r.rest 0 8))) (fun w hw => within_c w r.rest 0 8) (by rintro _ ⟨⟩; exact Nat.le_of_ble_eq_true rfl) ?_)
                    · as_aux_lemma => kernel_rfl
                    rintro ⟨⟩
                    refine RUN0 2 [] [(2, B (inB r.rest 0 8))] ?_ rfl ?_
                    · as_aux_lemma => kernel_rfl
                    refine ENDOPS (NEXT (RET (FIN (.bool (inB r.rest 0 8)) ?_ () ?_ [] ?_)))
                    · as_aux_lemma => kernel_rfl
                    · simp [RV, rulesOk, allSeats, *]
                    · rfl
                  · -- inB r.crew 1 3 = false
                    have h12 := bh12
                    refine RUN0 5 [] [(2, B false)] ?_ rfl ?_
                    · as_aux_lemma => kernel_rfl
                    refine ENDOPS (NEXT (RET (FIN (.bool false) ?_ () ?_ [] ?_)))
                    · as_aux_lemma => kernel_rfl
                    · simp [RV, rulesOk, allSeats, *]
                    · rfl
                · -- inB r.tries 1 4 = false
                  have h11 := bh11
                  refine RUN0 10 [] [(2, B false)] ?_ rfl ?_
                  · as_aux_lemma => kernel_rfl
                  refine ENDOPS (NEXT (RET (FIN (.bool false) ?_ () ?_ [] ?_)))
                  · as_aux_lemma => kernel_rfl
                  · simp [RV, rulesOk, allSeats, *]
                  · rfl
              · -- inB r.window 1 8 = false
                have h10 := bh10
                refine RUN0 15 [] [(2, B false)] ?_ rfl ?_
                · as_aux_lemma => kernel_rfl
                refine ENDOPS (NEXT (RET (FIN (.bool false) ?_ () ?_ [] ?_)))
                · as_aux_lemma => kernel_rfl
                · simp [RV, rulesOk, allSeats, *]
                · rfl
            · -- inB r.period 1 12 = false
              have h9 := bh9
              refine RUN0 20 [] [(2, B false)] ?_ rfl ?_
              · as_aux_lemma => kernel_rfl
              refine ENDOPS (NEXT (RET (FIN (.bool false) ?_ () ?_ [] ?_)))
              · as_aux_lemma => kernel_rfl
              · simp [RV, rulesOk, allSeats, *]
              · rfl
          · -- inB r.size 1 6 = false
            have h8 := bh8
            refine RUN0 25 [] [(2, B false)] ?_ rfl ?_
            · as_aux_lemma => kernel_rfl
            refine ENDOPS (NEXT (RET (FIN (.bool false) ?_ () ?_ [] ?_)))
            · as_aux_lemma => kernel_rfl
            · simp [RV, rulesOk, allSeats, *]
            · rfl
        · -- inB r.room 1 10 = false
          have h7 := bh7
          refine RUN0 30 [] [(2, B false)] ?_ rfl ?_
          · as_aux_lemma => kernel_rfl
          refine ENDOPS (NEXT (RET (FIN (.bool false) ?_ () ?_ [] ?_)))
          · as_aux_lemma => kernel_rfl
          · simp [RV, rulesOk, allSeats, *]
          · rfl
      · -- inB r.tiers 1 5 = false
        have h6 := bh6
        refine RUN0 35 [] [(2, B false)] ?_ rfl ?_
        · as_aux_lemma => kernel_rfl
        refine ENDOPS (NEXT (RET (FIN (.bool false) ?_ () ?_ [] ?_)))
        · as_aux_lemma => kernel_rfl
        · simp [RV, rulesOk, allSeats, *]
        · rfl

theorem sRulesOk_c (W : World) (r : Rules) (r_seats_a : Option Addr) (r_seats_c : Nat) (hr_seats : Rd intL W r_seats_a r.seats) : Spec Try.prog W [] 28 #[.agg #[.slice r_seats_a r.seats.length r_seats_c, vi r.tiers, vi r.room, vi r.size, vi r.period, vi r.window, vi r.rest, vi r.tries, vi r.crew]] (RV (.bool (rulesOk r))) := by
  refine ENTER0 (N := 65) (vs := [.agg #[.slice r_seats_a r.seats.length r_seats_c, vi r.tiers, vi r.room, vi r.size, vi r.period, vi r.window, vi r.rest, vi r.tries, vi r.crew]]) Try.func28 rfl rfl (Nat.le_of_ble_eq_true rfl) ?_
  have hr_seats_len := hr_seats.len
  refine SEQ (REGION [0, 1] rfl (RUN 2 [] [(1, .p 0 0)] [(29, [.slice r_seats_a r.seats.length r_seats_c, vi r.tiers, vi r.room, vi r.size, vi r.period, vi r.window, vi r.rest, vi r.tries, vi r.crew])] ?_ rfl ?_))
  · as_aux_lemma => kernel_rfl
  refine ENDOPS (NEXT (SEQ (SEQ (REGION [0, 1, 2, 3, 4, 5, 6, 7, 8, 9, 10, 11, 12, 13, 14, 15, 16, 17, 18, 19, 20, 21, 22, 23, 24, 25, 26, 27, 28] rfl (RUN0 3 [3, 4, 5, 6, 7, 8, 9, 10, 11, 12, 13, 14, 15, 16, 17, 18, 19, 20, 21, 22, 23, 24, 25, 26, 27, 28] [(1, .p 0 0), (6, I (r.seats.length : Int))] ?_ rfl ?_)))))
  · as_aux_lemma => kernel_rfl
  refine OPC (CALL 25 #[vi (r.seats.length : Int), vi 1, vi 4] (some 7) ?_ [] [] _ rfl (RV (.bool (inB (r.seats.length : Int) 1 4))) (fun w hw => l1In_c w (r.seats.length : Int) 1 4) (by rintro _ ⟨⟩; exact Nat.le_of_ble_eq_true rfl) ?_)
  · as_aux_lemma => kernel_rfl
  rintro ⟨⟩
  refine RUN0 2 [6, 7, 8, 9, 10, 11, 12, 13, 14, 15, 16, 17, 18, 19, 20, 21, 22, 23, 24, 25, 26, 27, 28] [(1, .p 0 0), (9, B (!(inB (r.seats.length : Int) 1 4)))] ?_ rfl ?_
  · as_aux_lemma => kernel_rfl
  refine SPLIT (d := 9) (!(inB (r.seats.length : Int) 1 4)) ?_ (fun bh1 => ?_) (fun bh1 => ?_)
  · as_aux_lemma => kernel_rfl
  · -- !(inB (r.seats.length : Int) 1 4) = true
    have h1 := bh1
    have h1 := notT h1
    refine RUN0 23 [] [(1, .p 0 0), (32, B true)] ?_ rfl ?_
    · as_aux_lemma => kernel_rfl
    refine ENDOPS (NEXT (IFT ?_ ?_))
    · as_aux_lemma => kernel_rfl
    refine SEQ (REGION [0] rfl (RUN0 1 [] [(2, B false)] ?_ rfl ?_))
    · as_aux_lemma => kernel_rfl
    refine ENDOPS (NEXT (RET (PASS trivial (FIN (.bool false) ?_ () ?_ [] ?_))))
    · as_aux_lemma => kernel_rfl
    · simp [RV, rulesOk, allSeats, *]
    · rfl
  · -- !(inB (r.seats.length : Int) 1 4) = false
    have h1 := bh1
    have h1 := notF h1
    refine RUN0 2 [8, 9, 10, 11, 12, 13, 14, 15, 16, 17, 18, 19, 20, 21, 22, 23, 24, 25, 26, 27, 28] [(1, .p 0 0), (9, B false), (11, I r.tiers)] ?_ rfl ?_
    · as_aux_lemma => kernel_rfl
    refine OPC (CALL 25 #[vi r.tiers, vi 1, vi 5] (some 12) ?_ [] [] _ rfl (RV (.bool (inB r.tiers 1 5))) (fun w hw => l1In_c w r.tiers 1 5) (by rintro _ ⟨⟩; exact Nat.le_of_ble_eq_true rfl) ?_)
    · as_aux_lemma => kernel_rfl
    rintro ⟨⟩
    refine RUN0 3 [12, 13, 14, 15, 16, 17, 18, 19, 20, 21, 22, 23, 24, 25, 26, 27, 28] [(1, .p 0 0), (15, B (!(inB r.tiers 1 5)))] ?_ rfl ?_
    · as_aux_lemma => kernel_rfl
    refine SPLIT (d := 15) (!(inB r.tiers 1 5)) ?_ (fun bh2 => ?_) (fun bh2 => ?_)
    · as_aux_lemma => kernel_rfl
    · -- !(inB r.tiers 1 5) = true
      have h2 := bh2
      have h2 := notT h2
      refine RUN0 17 [] [(1, .p 0 0), (32, B true)] ?_ rfl ?_
      · as_aux_lemma => kernel_rfl
      refine ENDOPS (NEXT (IFT ?_ ?_))
      · as_aux_lemma => kernel_rfl
      refine SEQ (REGION [0] rfl (RUN0 1 [] [(2, B false)] ?_ rfl ?_))
      · as_aux_lemma => kernel_rfl
      refine ENDOPS (NEXT (RET (PASS trivial (FIN (.bool false) ?_ () ?_ [] ?_))))
      · as_aux_lemma => kernel_rfl
      · simp [RV, rulesOk, allSeats, *]
      · rfl
    · -- !(inB r.tiers 1 5) = false
      have h2 := bh2
      have h2 := notF h2
      refine RUN0 2 [14, 15, 16, 17, 18, 19, 20, 21, 22, 23, 24, 25, 26, 27, 28] [(1, .p 0 0), (15, B false), (17, I r.room)] ?_ rfl ?_
      · as_aux_lemma => kernel_rfl
      refine OPC (CALL 25 #[vi r.room, vi 1, vi 10] (some 18) ?_ [] [] _ rfl (RV (.bool (inB r.room 1 10))) (fun w hw => l1In_c w r.room 1 10) (by rintro _ ⟨⟩; exact Nat.le_of_ble_eq_true rfl) ?_)
      · as_aux_lemma => kernel_rfl
      rintro ⟨⟩
      refine RUN0 3 [18, 19, 20, 21, 22, 23, 24, 25, 26, 27, 28] [(1, .p 0 0), (21, B (!(inB r.room 1 10)))] ?_ rfl ?_
      · as_aux_lemma => kernel_rfl
      refine SPLIT (d := 21) (!(inB r.room 1 10)) ?_ (fun bh3 => ?_) (fun bh3 => ?_)
      · as_aux_lemma => kernel_rfl
      · -- !(inB r.room 1 10) = true
        have h3 := bh3
        have h3 := notT h3
        refine RUN0 11 [] [(1, .p 0 0), (32, B true)] ?_ rfl ?_
        · as_aux_lemma => kernel_rfl
        refine ENDOPS (NEXT (IFT ?_ ?_))
        · as_aux_lemma => kernel_rfl
        refine SEQ (REGION [0] rfl (RUN0 1 [] [(2, B false)] ?_ rfl ?_))
        · as_aux_lemma => kernel_rfl
        refine ENDOPS (NEXT (RET (PASS trivial (FIN (.bool false) ?_ () ?_ [] ?_))))
        · as_aux_lemma => kernel_rfl
        · simp [RV, rulesOk, allSeats, *]
        · rfl
      · -- !(inB r.room 1 10) = false
        have h3 := bh3
        have h3 := notF h3
        refine RUN0 2 [20, 21, 22, 23, 24, 25, 26, 27, 28] [(1, .p 0 0), (21, B false), (23, I r.size)] ?_ rfl ?_
        · as_aux_lemma => kernel_rfl
        refine OPC (CALL 25 #[vi r.size, vi 1, vi 6] (some 24) ?_ [] [] _ rfl (RV (.bool (inB r.size 1 6))) (fun w hw => l1In_c w r.size 1 6) (by rintro _ ⟨⟩; exact Nat.le_of_ble_eq_true rfl) ?_)
        · as_aux_lemma => kernel_rfl
        rintro ⟨⟩
        refine RUN0 3 [24, 25, 26, 27, 28] [(1, .p 0 0), (27, B (!(inB r.size 1 6)))] ?_ rfl ?_
        · as_aux_lemma => kernel_rfl
        refine SPLIT (d := 27) (!(inB r.size 1 6)) ?_ (fun bh4 => ?_) (fun bh4 => ?_)
        · as_aux_lemma => kernel_rfl
        · -- !(inB r.size 1 6) = true
          have h4 := bh4
          have h4 := notT h4
          refine RUN0 5 [] [(1, .p 0 0), (32, B true)] ?_ rfl ?_
          · as_aux_lemma => kernel_rfl
          refine ENDOPS (NEXT (IFT ?_ ?_))
          · as_aux_lemma => kernel_rfl
          refine SEQ (REGION [0] rfl (RUN0 1 [] [(2, B false)] ?_ rfl ?_))
          · as_aux_lemma => kernel_rfl
          refine ENDOPS (NEXT (RET (PASS trivial (FIN (.bool false) ?_ () ?_ [] ?_))))
          · as_aux_lemma => kernel_rfl
          · simp [RV, rulesOk, allSeats, *]
          · rfl
        · -- !(inB r.size 1 6) = false
          have h4 := bh4
          have h4 := notF h4
          refine RUN0 2 [26, 27, 28] [(1, .p 0 0), (27, B false), (29, I r.period)] ?_ rfl ?_
          · as_aux_lemma => kernel_rfl
          refine OPC (CALL 25 #[vi r.period, vi 1, vi 12] (some 30) ?_ [] [] _ rfl (RV (.bool (inB r.period 1 12))) (fun w hw => l1In_c w r.period 1 12) (by rintro _ ⟨⟩; exact Nat.le_of_ble_eq_true rfl) ?_)
          · as_aux_lemma => kernel_rfl
          rintro ⟨⟩
          refine RUN0 2 [] [(1, .p 0 0), (32, B (!(inB r.period 1 12)))] ?_ rfl ?_
          · as_aux_lemma => kernel_rfl
          refine ENDOPS (NEXT (IF (!(inB r.period 1 12)) ?_ (fun bh5 => ?_) (fun bh5 => ?_)))
          · as_aux_lemma => kernel_rfl
          · -- !(inB r.period 1 12) = true
            have h5 := bh5
            have h5 := notT h5
            refine SEQ (REGION [0] rfl (RUN0 1 [] [(2, B false)] ?_ rfl ?_))
            · as_aux_lemma => kernel_rfl
            refine ENDOPS (NEXT (RET (PASS trivial (FIN (.bool false) ?_ () ?_ [] ?_))))
            · as_aux_lemma => kernel_rfl
            · simp [RV, rulesOk, allSeats, *]
            · rfl
          · -- !(inB r.period 1 12) = false
            have h5 := bh5
            have h5 := notF h5
            refine SKIP (NEXT (SEQ (SEQ (REGION [0] rfl (RUN0 1 [] [(1, .p 0 0), (3, I 0)] ?_ rfl ?_)))))
            · as_aux_lemma => kernel_rfl
            refine ENDOPS (NEXT (BLOCK (LOOP (ι := Nat × (List Int)) (fun j => [(1, .p 0 0), (3, I (j.1 : Int))]) (fun j => [(29, [.slice r_seats_a r.seats.length r_seats_c, vi r.tiers, vi r.room, vi r.size, vi r.period, vi r.window, vi r.rest, vi r.tries, vi r.crew])]) (fun j => []) (fun j => j.1 + j.2.length = r.seats.length ∧ r.seats.drop j.1 = j.2 ∧ allSeats r.seats = allSeats j.2) (fun j => j.2.length) (0, r.seats) [1, 3] ⟨by simp, rfl, rfl⟩ ?_ rfl rfl ?_)))
            · as_aux_lemma => kernel_rfl
            rintro ⟨k, ys⟩ ⟨hk, hd, hv0⟩
            dsimp only at hk hd hv0
            refine SEQ (SEQ (REGION [0, 1, 2, 3, 4] rfl (RUN0 5 [] [(1, .p 0 0), (3, I (k : Int)), (37, B (decide ((k : Int) < (r.seats.length : Int))))] ?_ rfl ?_)))
            · as_aux_lemma => kernel_rfl
            refine ENDOPS (NEXT (IF (decide ((k : Int) < (r.seats.length : Int))) ?_ (fun bh6 => ?_) (fun bh6 => ?_)))
            · as_aux_lemma => kernel_rfl
            · -- decide ((k : Int) < (r.seats.length : Int)) = true
              have h6 := bh6
              have h6 := of_decide_eq_true h6
              obtain ⟨y7, ys8, rfl, hx_y7, hd_y7, hl_y7⟩ := drop_cons hd hk (by omega)
              refine SKIP (NEXT (SEQ (BLOCK (SEQ (REGION [0, 1, 2, 3, 4, 5, 6] rfl (RUN0 3 [3, 4, 5, 6] [(1, .p 0 0), (3, I (k : Int)), (41, .v (.slice r_seats_a r.seats.length r_seats_c)), (42, I (k : Int))] ?_ rfl ?_))))))
              · as_aux_lemma => kernel_rfl
              refine OPC (INDEX 24 (.tmp 41) (.tmp 42) 43 0 ?_ (Nat.le_of_ble_eq_true rfl) r_seats_a r.seats.length r_seats_c .i64 (k : Int) 3 1 ?_ ?_ ?_ ?_ (Rd.some hr_seats (by omega)) (by omega) (by omega) ?_)
              · as_aux_lemma => kernel_rfl
              · as_aux_lemma => kernel_rfl
              · as_aux_lemma => kernel_rfl
              · as_aux_lemma => kernel_rfl
              · as_aux_lemma => kernel_rfl
              refine OPC (LOADE 3 (.tmp 43) 44 3 ?_ (Nat.le_of_ble_eq_true rfl) r_seats_a (k * 1) 0 [vi y7] (vi y7) ?_ (fun w hw => (hr_seats.fr hw.fr).flat hx_y7) ?_ ?_)
              · as_aux_lemma => kernel_rfl
              · as_aux_lemma => kernel_rfl
              · as_aux_lemma => kernel_rfl
              refine OPC (CALL 25 #[vi y7, vi 1, vi 60] (some 45) ?_ [] [] _ rfl (RV (.bool (inB y7 1 60))) (fun w hw => l1In_c w y7 1 60) (by rintro _ ⟨⟩; exact Nat.le_of_ble_eq_true rfl) ?_)
              · as_aux_lemma => kernel_rfl
              rintro ⟨⟩
              refine RUN0 1 [] [(1, .p 0 0), (3, I (k : Int)), (46, B (!(inB y7 1 60)))] ?_ rfl ?_
              · as_aux_lemma => kernel_rfl
              refine ENDOPS (NEXT (IF (!(inB y7 1 60)) ?_ (fun bh9 => ?_) (fun bh9 => ?_)))
              · as_aux_lemma => kernel_rfl
              · -- !(inB y7 1 60) = true
                have h9 := bh9
                have h9 := notT h9
                refine SEQ (REGION [0] rfl (RUN0 1 [] [(2, B false)] ?_ rfl ?_))
                · as_aux_lemma => kernel_rfl
                refine ENDOPS (NEXT (RET (OUTR (PASS trivial (PASS trivial (OUTR (PASS trivial (FIN (.bool false) ?_ () ?_ [] ?_))))))))
                · as_aux_lemma => kernel_rfl
                · simp [RV, rulesOk, allSeats, *]
                · rfl
              · -- !(inB y7 1 60) = false
                have h9 := bh9
                have h9 := notF h9
                refine SKIP (OUTN (NEXT (REGION [0, 1, 2] rfl (RUN0 2 [2] [(1, .p 0 0), (39, I (wr ((k : Int) + 1)))] ?_ rfl ?_))))
                · as_aux_lemma => kernel_rfl
                refine CAST (d := 39) (vi (wr ((k : Int) + 1))) (vi ((k + 1 : Nat) : Int)) ?_ (vi_cast (by omega) (by omega)) ?_
                · as_aux_lemma => kernel_rfl
                refine RUN0 1 [] [(1, .p 0 0), (3, I ((k + 1 : Nat) : Int))] ?_ rfl ?_
                · as_aux_lemma => kernel_rfl
                refine ENDOPS (BACK (k + 1, ys8) [1, 3] 1 [] _ ⟨hl_y7, hd_y7, hv0.trans (by simp [allSeats, *])⟩ (by simp) ?_ rfl rfl rfl)
                · as_aux_lemma => kernel_rfl
            · -- decide ((k : Int) < (r.seats.length : Int)) = false
              have h6 := bh6
              have h6 := of_decide_eq_false h6
              obtain rfl := drop_nil hk (by omega)
              refine EXIT (PASS trivial (PASS trivial (OUT (NEXT (SEQ (REGION [0, 1, 2, 3, 4, 5, 6, 7, 8, 9, 10, 11, 12, 13, 14, 15, 16, 17, 18] rfl (RUN0 2 [2, 3, 4, 5, 6, 7, 8, 9, 10, 11, 12, 13, 14, 15, 16, 17, 18] [(1, .p 0 0), (48, I r.window)] ?_ rfl ?_)))))))
              · as_aux_lemma => kernel_rfl
              refine OPC (CALL 25 #[vi r.window, vi 1, vi 8] (some 49) ?_ [] [] _ rfl (RV (.bool (inB r.window 1 8))) (fun w hw => l1In_c w r.window 1 8) (by rintro _ ⟨⟩; exact Nat.le_of_ble_eq_true rfl) ?_)
              · as_aux_lemma => kernel_rfl
              rintro ⟨⟩
              refine RUN0 1 [4, 5, 6, 7, 8, 9, 10, 11, 12, 13, 14, 15, 16, 17, 18] [(1, .p 0 0), (50, B (inB r.window 1 8))] ?_ rfl ?_
              · as_aux_lemma => kernel_rfl
              refine SPLIT (d := 50) (inB r.window 1 8) ?_ (fun bh10 => ?_) (fun bh10 => ?_)
              · as_aux_lemma => kernel_rfl
              · -- inB r.window 1 8 = true
                have h10 := bh10
                refine RUN0 2 [6, 7, 8, 9, 10, 11, 12, 13, 14, 15, 16, 17, 18] [(1, .p 0 0), (50, B true), (52, I r.rest)] ?_ rfl ?_
                · as_aux_lemma => kernel_rfl
                refine OPC (CALL 25 #[vi r.rest, vi 0, vi 8] (some 53) ?_ [] [] _ rfl (RV (.bool (inB r.rest 0 8))) (fun w hw => l1In_c w r.rest 0 8) (by rintro _ ⟨⟩; exact Nat.le_of_ble_eq_true rfl) ?_)
                · as_aux_lemma => kernel_rfl
                rintro ⟨⟩
                refine RUN0 2 [9, 10, 11, 12, 13, 14, 15, 16, 17, 18] [(1, .p 0 0), (55, B (inB r.rest 0 8))] ?_ rfl ?_
                · as_aux_lemma => kernel_rfl
                refine SPLIT (d := 55) (inB r.rest 0 8) ?_ (fun bh11 => ?_) (fun bh11 => ?_)
                · as_aux_lemma => kernel_rfl
                · -- inB r.rest 0 8 = true
                  have h11 := bh11
                  refine RUN0 2 [11, 12, 13, 14, 15, 16, 17, 18] [(1, .p 0 0), (55, B true), (57, I r.tries)] ?_ rfl ?_
                  · as_aux_lemma => kernel_rfl
                  refine OPC (CALL 25 #[vi r.tries, vi 1, vi 4] (some 58) ?_ [] [] _ rfl (RV (.bool (inB r.tries 1 4))) (fun w hw => l1In_c w r.tries 1 4) (by rintro _ ⟨⟩; exact Nat.le_of_ble_eq_true rfl) ?_)
                  · as_aux_lemma => kernel_rfl
                  rintro ⟨⟩
                  refine RUN0 2 [14, 15, 16, 17, 18] [(1, .p 0 0), (60, B (inB r.tries 1 4))] ?_ rfl ?_
                  · as_aux_lemma => kernel_rfl
                  refine SPLIT (d := 60) (inB r.tries 1 4) ?_ (fun bh12 => ?_) (fun bh12 => ?_)
                  · as_aux_lemma => kernel_rfl
                  · -- inB r.tries 1 4 = true
                    have h12 := bh12
                    refine RUN0 2 [16, 17, 18] [(60, B true), (62, I r.crew)] ?_ rfl ?_
                    · as_aux_lemma => kernel_rfl
                    refine OPC (CALL 25 #[vi r.crew, vi 1, vi 3] (some 63) ?_ [] [] _ rfl (RV (.bool (inB r.crew 1 3))) (fun w hw => l1In_c w r.crew 1 3) (by rintro _ ⟨⟩; exact Nat.le_of_ble_eq_true rfl) ?_)
                    · as_aux_lemma => kernel_rfl
                    rintro ⟨⟩
                    refine RUN0 2 [] [(2, B (inB r.crew 1 3))] ?_ rfl ?_
                    · as_aux_lemma => kernel_rfl
                    refine ENDOPS (NEXT (RET (FIN (.bool (inB r.crew 1 3)) ?_ () ?_ [] ?_)))
                    · as_aux_lemma => kernel_rfl
                    · simp [RV, rulesOk, allSeats, *]
                    · rfl
                  · -- inB r.tries 1 4 = false
                    have h12 := bh12
                    refine RUN0 5 [] [(2, B false)] ?_ rfl ?_
                    · as_aux_lemma => kernel_rfl
                    refine ENDOPS (NEXT (RET (FIN (.bool false) ?_ () ?_ [] ?_)))
                    · as_aux_lemma => kernel_rfl
                    · simp [RV, rulesOk, allSeats, *]
                    · rfl
                · -- inB r.rest 0 8 = false
                  have h11 := bh11
                  refine RUN0 10 [] [(2, B false)] ?_ rfl ?_
                  · as_aux_lemma => kernel_rfl
                  refine ENDOPS (NEXT (RET (FIN (.bool false) ?_ () ?_ [] ?_)))
                  · as_aux_lemma => kernel_rfl
                  · simp [RV, rulesOk, allSeats, *]
                  · rfl
              · -- inB r.window 1 8 = false
                have h10 := bh10
                refine RUN0 15 [] [(2, B false)] ?_ rfl ?_
                · as_aux_lemma => kernel_rfl
                refine ENDOPS (NEXT (RET (FIN (.bool false) ?_ () ?_ [] ?_)))
                · as_aux_lemma => kernel_rfl
                · simp [RV, rulesOk, allSeats, *]
                · rfl

theorem szRules_c (W : World) (a : Rules) (a_seats_a : Option Addr) (a_seats_c : Nat) (ha_seats : Rd intL W a_seats_a a.seats) (left : Int) : Spec Try.prog W [] 10 #[.agg #[.slice a_seats_a a.seats.length a_seats_c, vi a.tiers, vi a.room, vi a.size, vi a.period, vi a.window, vi a.rest, vi a.tries, vi a.crew], vi left] (RV (vi (szRules a left))) := by
  refine ENTER0 (N := 12) (vs := [.agg #[.slice a_seats_a a.seats.length a_seats_c, vi a.tiers, vi a.room, vi a.size, vi a.period, vi a.window, vi a.rest, vi a.tries, vi a.crew], vi left]) Try.func10 rfl rfl (Nat.le_of_ble_eq_true rfl) ?_
  have ha_seats_len := ha_seats.len
  refine SEQ (REGION [0, 1] rfl (RUN 2 [] [(1, I left), (2, .p 0 0)] [(26, [.slice a_seats_a a.seats.length a_seats_c, vi a.tiers, vi a.room, vi a.size, vi a.period, vi a.window, vi a.rest, vi a.tries, vi a.crew])] ?_ rfl ?_))
  · as_aux_lemma => kernel_rfl
  refine ENDOPS (NEXT (SEQ (REGION [0, 1, 2, 3, 4] rfl (RUN0 3 [3, 4] [(6, .v (.slice a_seats_a a.seats.length a_seats_c)), (7, I left)] ?_ rfl ?_))))
  · as_aux_lemma => kernel_rfl
  refine OPC (CALL 27 #[.slice a_seats_a a.seats.length a_seats_c, vi left] (some 8) ?_ [] [] _ rfl (RV (vi (szInts a.seats left))) (fun w hw => szIntS_c w a.seats a_seats_a a_seats_c (ha_seats.fr hw.fr) left) (by rintro _ ⟨⟩; exact Nat.le_of_ble_eq_true rfl) ?_)
  · as_aux_lemma => kernel_rfl
  rintro ⟨⟩
  refine RUN0 1 [] [(1, I (szInts a.seats left))] ?_ rfl ?_
  · as_aux_lemma => kernel_rfl
  refine ENDOPS (NEXT (SEQ (SEQ (REGION [0, 1] rfl (RUN0 2 [] [(1, I (szInts a.seats left)), (10, B (decide ((szInts a.seats left) < 0)))] ?_ rfl ?_)))))
  · as_aux_lemma => kernel_rfl
  refine ENDOPS (NEXT (IF (decide ((szInts a.seats left) < 0)) ?_ (fun bh1 => ?_) (fun bh1 => ?_)))
  · as_aux_lemma => kernel_rfl
  · -- decide ((szInts a.seats left) < 0) = true
    have h1 := bh1
    have h1 := of_decide_eq_true h1
    refine SEQ (REGION [0] rfl (RUN0 1 [] [(4, I (-1))] ?_ rfl ?_))
    · as_aux_lemma => kernel_rfl
    refine ENDOPS (NEXT (RET (PASS trivial (FIN (vi (-1)) ?_ () ?_ [] ?_))))
    · as_aux_lemma => kernel_rfl
    · simp [RV, szRules, *]
    · rfl
  · -- decide ((szInts a.seats left) < 0) = false
    have h1 := bh1
    have h1 := of_decide_eq_false h1
    refine SKIP (NEXT (SEQ (REGION [0, 1] rfl (RUN0 2 [] [(4, I (szInts a.seats left))] ?_ rfl ?_))))
    · as_aux_lemma => kernel_rfl
    refine ENDOPS (NEXT (RET (FIN (vi (szInts a.seats left)) ?_ () ?_ [] ?_)))
    · as_aux_lemma => kernel_rfl
    · simp [RV, szRules, *]
    · rfl

theorem toIntS_c (W : World) (a : List Int) (a_a : Option Addr) (a_c : Nat) (ha : Rd intL W a_a a) (hb : a.length ≤ 1048576) : Spec Try.prog W [] 29 #[.slice a_a a.length a_c] (⟨HH, fun p => .slice p.1 a.length p.2, fun p => [slA 3 intL (.slice p.1 a.length p.2) a]⟩) := by
  refine ENTER0 (N := 22) (vs := [.slice a_a a.length a_c]) Try.func29 rfl rfl (Nat.le_of_ble_eq_true rfl) ?_
  have ha_len := ha.len
  refine SEQ (REGION [0] rfl (RUN0 1 [] [(0, .v (.slice a_a a.length a_c))] ?_ rfl ?_))
  · as_aux_lemma => kernel_rfl
  refine ENDOPS (NEXT (SEQ (REGION [0, 1, 2, 3] rfl (RUN0 2 [2, 3] [(0, .v (.slice a_a a.length a_c)), (6, I (a.length : Int))] ?_ rfl ?_))))
  · as_aux_lemma => kernel_rfl
  refine OPC (MAKE 24 (.tmp 6) (.tmp 6) 7 24 ?_ (Nat.le_of_ble_eq_true rfl) a.length ?_ ?_ 3 ?_ (fun z => [.int .i64 z]) (fun z => ⟨rfl, by simp [isCell]⟩) 0 (vi 0) 8 rfl ?_ rfl (by omega) (by simp only [maxLen]; omega) (fun a1 ha2 => ?_))
  · as_aux_lemma => kernel_rfl
  · as_aux_lemma => kernel_rfl
  · as_aux_lemma => kernel_rfl
  · as_aux_lemma => kernel_rfl
  · as_aux_lemma => kernel_rfl
  refine RUN0 1 [] [(0, .v (.slice a_a a.length a_c)), (3, .v (.slice a1 a.length a.length))] ?_ rfl ?_
  · as_aux_lemma => kernel_rfl
  refine ENDOPS (NEXT (SEQ (SEQ (REGION [0] rfl (RUN0 1 [] [(0, .v (.slice a_a a.length a_c)), (3, .v (.slice a1 a.length a.length)), (4, I 0)] ?_ rfl ?_)))))
  · as_aux_lemma => kernel_rfl
  refine ENDOPS (NEXT (BLOCK (LOOP (ι := Nat × (List Int) × (List Int)) (fun j => [(0, .v (.slice a_a a.length a_c)), (3, .v (.slice a1 a.length a.length)), (4, I (j.1 : Int))]) (fun j => []) (fun j => [slA 3 intL (.slice a1 a.length a.length) j.2.2]) (fun j => j.1 + j.2.1.length = a.length ∧ a.drop j.1 = j.2.1 ∧ j.2.2 = a.take j.1 ++ List.replicate j.2.1.length 0) (fun j => j.2.1.length) (0, a, List.replicate a.length 0) [0, 3, 4] ⟨by simp, rfl, by simp⟩ ?_ rfl rfl ?_)))
  · as_aux_lemma => kernel_rfl
  rintro ⟨k, ys, out⟩ ⟨hk, hd, hv0⟩
  dsimp only at hk hd hv0
  refine SEQ (SEQ (REGION [0, 1, 2, 3] rfl (RUN0 4 [] [(0, .v (.slice a_a a.length a_c)), (3, .v (.slice a1 a.length a.length)), (4, I (k : Int)), (11, B (decide ((k : Int) < (a.length : Int))))] ?_ rfl ?_)))
  · as_aux_lemma => kernel_rfl
  refine ENDOPS (NEXT (IF (decide ((k : Int) < (a.length : Int))) ?_ (fun bh3 => ?_) (fun bh3 => ?_)))
  · as_aux_lemma => kernel_rfl
  · -- decide ((k : Int) < (a.length : Int)) = true
    have h3 := bh3
    have h3 := of_decide_eq_true h3
    obtain ⟨y4, ys5, rfl, hx_y4, hd_y4, hl_y4⟩ := drop_cons hd hk (by omega)
    refine SKIP (NEXT (SEQ (BLOCK (REGION [0, 1, 2, 3, 4, 5, 6, 7] rfl (RUN0 4 [4, 5, 6, 7] [(0, .v (.slice a_a a.length a_c)), (3, .v (.slice a1 a.length a.length)), (4, I (k : Int)), (14, .v (.slice a1 a.length a.length)), (15, I (k : Int)), (16, .v (.slice a_a a.length a_c)), (17, I (k : Int))] ?_ rfl ?_)))))
    · as_aux_lemma => kernel_rfl
    refine OPC (INDEX 24 (.tmp 16) (.tmp 17) 18 0 ?_ (Nat.le_of_ble_eq_true rfl) a_a a.length a_c .i64 (k : Int) 3 1 ?_ ?_ ?_ ?_ (Rd.some ha (by omega)) (by omega) (by omega) ?_)
    · as_aux_lemma => kernel_rfl
    · as_aux_lemma => kernel_rfl
    · as_aux_lemma => kernel_rfl
    · as_aux_lemma => kernel_rfl
    · as_aux_lemma => kernel_rfl
    refine OPC (LOADE 3 (.tmp 18) 19 3 ?_ (Nat.le_of_ble_eq_true rfl) a_a (k * 1) 0 [vi y4] (vi y4) ?_ (fun w hw => (ha.fr hw.fr).flat hx_y4) ?_ ?_)
    · as_aux_lemma => kernel_rfl
    · as_aux_lemma => kernel_rfl
    · as_aux_lemma => kernel_rfl
    refine FACT (a.length = out.length) (fun w hw => (SlO.lenE (hw.own 0 rfl)).1) (fun hln6 => ?_)
    obtain ⟨x7, hx8⟩ : ∃ y, out[k]? = some y := ⟨_, List.getElem?_eq_getElem (by omega)⟩
    refine OPC (INDEX 24 (.tmp 14) (.tmp 15) 20 0 ?_ (Nat.le_of_ble_eq_true rfl) a1 a.length a.length .i64 (k : Int) 3 1 ?_ ?_ ?_ ?_ ha2 (by omega) (by omega) ?_)
    · as_aux_lemma => kernel_rfl
    · as_aux_lemma => kernel_rfl
    · as_aux_lemma => kernel_rfl
    · as_aux_lemma => kernel_rfl
    · as_aux_lemma => kernel_rfl
    refine OPC (STOREF 3 (.tmp 20) (.tmp 19) 0 ?_ 0 _ 3 a1 a.length a.length k 0 out rfl x7 y4 hx8 (vi y4) ?_ ?_ ?_ ?_)
    · as_aux_lemma => kernel_rfl
    · as_aux_lemma => kernel_rfl
    · as_aux_lemma => kernel_rfl
    · as_aux_lemma => kernel_rfl
    refine ENDOPS (OUTN (NEXT (REGION [0, 1, 2] rfl (RUN0 2 [2] [(0, .v (.slice a_a a.length a_c)), (3, .v (.slice a1 a.length a.length)), (13, I (wr ((k : Int) + 1)))] ?_ rfl ?_))))
    · as_aux_lemma => kernel_rfl
    refine CAST (d := 13) (vi (wr ((k : Int) + 1))) (vi ((k + 1 : Nat) : Int)) ?_ (vi_cast (by omega) (by omega)) ?_
    · as_aux_lemma => kernel_rfl
    refine RUN0 1 [] [(0, .v (.slice a_a a.length a_c)), (3, .v (.slice a1 a.length a.length)), (4, I ((k + 1 : Nat) : Int))] ?_ rfl ?_
    · as_aux_lemma => kernel_rfl
    refine ENDOPS (BACK (k + 1, ys5, out.set k y4) [0, 3, 4] 0 [0] _ ⟨hl_y4, hd_y4, by rw [hv0]; exact set_next hk hx_y4⟩ (by simp) ?_ rfl rfl rfl)
    · as_aux_lemma => kernel_rfl
  · -- decide ((k : Int) < (a.length : Int)) = false
    have h3 := bh3
    have h3 := of_decide_eq_false h3
    obtain rfl := drop_nil hk (by omega)
    refine EXIT (PASS trivial (PASS trivial (OUT (NEXT (SEQ (REGION [0, 1] rfl (RUN0 2 [] [(2, .v (.slice a1 a.length a.length))] ?_ rfl ?_)))))))
    · as_aux_lemma => kernel_rfl
    refine ENDOPS (NEXT (RET (FIN (.slice a1 a.length a.length) ?_ (a1, a.length) ?_ [0] ?_)))
    · as_aux_lemma => kernel_rfl
    · rfl
    · (rw [show out = a by rw [hv0]; simp [show k = a.length by simpa using hk]]; rfl)

end SX
end Go.Proofs.Ytcjaeedkhlnegaa
