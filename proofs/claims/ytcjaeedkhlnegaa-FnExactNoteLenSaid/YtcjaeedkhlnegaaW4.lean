/- Walks, printed by program. -/
import Derived.Test.YtcjaeedkhlnegaaW2
import Derived.Test.YtcjaeedkhlnegaaSxa
namespace Go.Proofs.Ytcjaeedkhlnegaa
namespace SX
open Go Go.RowKit
set_option linter.unusedVariables false
set_option linter.unusedSimpArgs false
set_option maxRecDepth 10000
theorem sSnapMost_c (W : World) (r : Rules) (r_seats_a : Option Addr) (r_seats_c : Nat) (hr_seats : Rd intL W r_seats_a r.seats) : Spec Try.prog W [] 15 #[.agg #[.slice r_seats_a r.seats.length r_seats_c, vi r.tiers, vi r.room, vi r.size, vi r.period, vi r.window, vi r.rest, vi r.tries, vi r.crew]] (RV (vi (snapMost r))) := by
  refine ENTER0 (N := 22) (vs := [.agg #[.slice r_seats_a r.seats.length r_seats_c, vi r.tiers, vi r.room, vi r.size, vi r.period, vi r.window, vi r.rest, vi r.tries, vi r.crew]]) Try.func15 rfl rfl (Nat.le_of_ble_eq_true rfl) ?_
  have hr_seats_len := hr_seats.len
  refine SEQ (REGION [0, 1] rfl (RUN 2 [] [(1, .p 0 0)] [(29, [.slice r_seats_a r.seats.length r_seats_c, vi r.tiers, vi r.room, vi r.size, vi r.period, vi r.window, vi r.rest, vi r.tries, vi r.crew])] ?_ rfl ?_))
  · as_aux_lemma => kernel_rfl
  refine ENDOPS (NEXT (SEQ (SEQ (REGION [0, 1, 2] rfl (RUN0 1 [1, 2] [(1, .p 0 0), (4, .v (.agg #[.slice r_seats_a r.seats.length r_seats_c, vi r.tiers, vi r.room, vi r.size, vi r.period, vi r.window, vi r.rest, vi r.tries, vi r.crew]))] ?_ rfl ?_)))))
  · as_aux_lemma => kernel_rfl
  refine OPC (CALL 28 #[.agg #[.slice r_seats_a r.seats.length r_seats_c, vi r.tiers, vi r.room, vi r.size, vi r.period, vi r.window, vi r.rest, vi r.tries, vi r.crew]] (some 5) ?_ [] [] _ rfl (RV (.bool (rulesOk r))) (fun w hw => sRulesOk_c w r r_seats_a r_seats_c (hr_seats.fr hw.fr)) (by rintro _ ⟨⟩; exact Nat.le_of_ble_eq_true rfl) ?_)
  · as_aux_lemma => kernel_rfl
  rintro ⟨⟩
  refine RUN0 1 [] [(1, .p 0 0), (6, B (!(rulesOk r)))] ?_ rfl ?_
  · as_aux_lemma => kernel_rfl
  refine ENDOPS (NEXT (IF (!(rulesOk r)) ?_ (fun bh1 => ?_) (fun bh1 => ?_)))
  · as_aux_lemma => kernel_rfl
  · -- !(rulesOk r) = true
    have h1 := bh1
    have h1 := notT h1
    refine SEQ (REGION [0] rfl (RUN0 1 [] [(2, I 0)] ?_ rfl ?_))
    · as_aux_lemma => kernel_rfl
    refine ENDOPS (NEXT (RET (PASS trivial (FIN (vi 0) ?_ () ?_ [] ?_))))
    · as_aux_lemma => kernel_rfl
    · simp [RV, snapMost, *]
    · rfl
  · -- !(rulesOk r) = false
    have h1 := bh1
    have h1 := notF h1
    refine SKIP (NEXT (SEQ (REGION [0, 1, 2, 3] rfl (RUN0 4 [] [(1, .p 0 0), (3, I (r.seats.length : Int))] ?_ rfl ?_))))
    · as_aux_lemma => kernel_rfl
    refine ENDOPS (NEXT (SEQ (REGION [0, 1, 2, 3, 4, 5, 6, 7, 8, 9, 10, 11, 12] rfl (RUN0 13 [] [(2, I (wr ((wr ((wr (24 + (wr (3 * (r.seats.length : Int))))) + (wr ((wr (17 * r.room)) * (r.seats.length : Int))))) + r.crew)))] ?_ rfl ?_))))
    · as_aux_lemma => kernel_rfl
    refine ENDOPS (NEXT (RET (FIN (vi (wr ((wr ((wr (24 + (wr (3 * (r.seats.length : Int))))) + (wr ((wr (17 * r.room)) * (r.seats.length : Int))))) + r.crew))) ?_ () ?_ [] ?_)))
    · as_aux_lemma => kernel_rfl
    · simp [RV, snapMost, *]
    · rfl

theorem iSnapMost_c (W : World) (r : Rules) (r_seats_a : Option Addr) (r_seats_c : Nat) (hr_seats : Rd intL W r_seats_a r.seats) : Spec Try.prog W [] 16 #[.agg #[.slice r_seats_a r.seats.length r_seats_c, vi r.tiers, vi r.room, vi r.size, vi r.period, vi r.window, vi r.rest, vi r.tries, vi r.crew]] (RV (vi (snapMost r))) := by
  refine ENTER0 (N := 22) (vs := [.agg #[.slice r_seats_a r.seats.length r_seats_c, vi r.tiers, vi r.room, vi r.size, vi r.period, vi r.window, vi r.rest, vi r.tries, vi r.crew]]) Try.func16 rfl rfl (Nat.le_of_ble_eq_true rfl) ?_
  have hr_seats_len := hr_seats.len
  refine SEQ (REGION [0, 1] rfl (RUN 2 [] [(1, .p 0 0)] [(29, [.slice r_seats_a r.seats.length r_seats_c, vi r.tiers, vi r.room, vi r.size, vi r.period, vi r.window, vi r.rest, vi r.tries, vi r.crew])] ?_ rfl ?_))
  · as_aux_lemma => kernel_rfl
  refine ENDOPS (NEXT (SEQ (SEQ (REGION [0, 1, 2] rfl (RUN0 1 [1, 2] [(1, .p 0 0), (4, .v (.agg #[.slice r_seats_a r.seats.length r_seats_c, vi r.tiers, vi r.room, vi r.size, vi r.period, vi r.window, vi r.rest, vi r.tries, vi r.crew]))] ?_ rfl ?_)))))
  · as_aux_lemma => kernel_rfl
  refine OPC (CALL 30 #[.agg #[.slice r_seats_a r.seats.length r_seats_c, vi r.tiers, vi r.room, vi r.size, vi r.period, vi r.window, vi r.rest, vi r.tries, vi r.crew]] (some 5) ?_ [] [] _ rfl (RV (.bool (rulesOk r))) (fun w hw => iRulesOk_c w r r_seats_a r_seats_c (hr_seats.fr hw.fr)) (by rintro _ ⟨⟩; exact Nat.le_of_ble_eq_true rfl) ?_)
  · as_aux_lemma => kernel_rfl
  rintro ⟨⟩
  refine RUN0 1 [] [(1, .p 0 0), (6, B (!(rulesOk r)))] ?_ rfl ?_
  · as_aux_lemma => kernel_rfl
  refine ENDOPS (NEXT (IF (!(rulesOk r)) ?_ (fun bh1 => ?_) (fun bh1 => ?_)))
  · as_aux_lemma => kernel_rfl
  · -- !(rulesOk r) = true
    have h1 := bh1
    have h1 := notT h1
    refine SEQ (REGION [0] rfl (RUN0 1 [] [(2, I 0)] ?_ rfl ?_))
    · as_aux_lemma => kernel_rfl
    refine ENDOPS (NEXT (RET (PASS trivial (FIN (vi 0) ?_ () ?_ [] ?_))))
    · as_aux_lemma => kernel_rfl
    · simp [RV, snapMost, *]
    · rfl
  · -- !(rulesOk r) = false
    have h1 := bh1
    have h1 := notF h1
    refine SKIP (NEXT (SEQ (REGION [0, 1, 2, 3] rfl (RUN0 4 [] [(1, .p 0 0), (3, I (r.seats.length : Int))] ?_ rfl ?_))))
    · as_aux_lemma => kernel_rfl
    refine ENDOPS (NEXT (SEQ (REGION [0, 1, 2, 3, 4, 5, 6, 7, 8, 9, 10, 11, 12] rfl (RUN0 13 [] [(2, I (wr ((wr ((wr (24 + (wr (3 * (r.seats.length : Int))))) + (wr ((wr (17 * r.room)) * (r.seats.length : Int))))) + r.crew)))] ?_ rfl ?_))))
    · as_aux_lemma => kernel_rfl
    refine ENDOPS (NEXT (RET (FIN (vi (wr ((wr ((wr (24 + (wr (3 * (r.seats.length : Int))))) + (wr ((wr (17 * r.room)) * (r.seats.length : Int))))) + r.crew))) ?_ () ?_ [] ?_)))
    · as_aux_lemma => kernel_rfl
    · simp [RV, snapMost, *]
    · rfl

theorem exSnapMost_c (W : World) (aR : Rules) (aR_seats_a : Option Addr) (aR_seats_c : Nat) (haR_seats : Rd intL W aR_seats_a aR.seats) : Spec Try.prog W [] 5 #[.agg #[.slice aR_seats_a aR.seats.length aR_seats_c, vi aR.tiers, vi aR.room, vi aR.size, vi aR.period, vi aR.window, vi aR.rest, vi aR.tries, vi aR.crew]] (RV (.bool true)) := by
  refine ENTER0 (N := 27) (vs := [.agg #[.slice aR_seats_a aR.seats.length aR_seats_c, vi aR.tiers, vi aR.room, vi aR.size, vi aR.period, vi aR.window, vi aR.rest, vi aR.tries, vi aR.crew]]) Try.func5 rfl rfl (Nat.le_of_ble_eq_true rfl) ?_
  have haR_seats_len := haR_seats.len
  refine SEQ (REGION [0, 1] rfl (RUN 2 [] [(1, .p 0 0)] [(26, [.slice aR_seats_a aR.seats.length aR_seats_c, vi aR.tiers, vi aR.room, vi aR.size, vi aR.period, vi aR.window, vi aR.rest, vi aR.tries, vi aR.crew])] ?_ rfl ?_))
  · as_aux_lemma => kernel_rfl
  refine ENDOPS (NEXT (SEQ (REGION [0] rfl (RUN0 1 [] [(1, .p 0 0), (3, I 1048576)] ?_ rfl ?_))))
  · as_aux_lemma => kernel_rfl
  refine ENDOPS (NEXT (SEQ (REGION [0, 1, 2, 3] rfl (RUN0 2 [2, 3] [(1, .p 0 0), (7, .v (.agg #[.slice aR_seats_a aR.seats.length aR_seats_c, vi aR.tiers, vi aR.room, vi aR.size, vi aR.period, vi aR.window, vi aR.rest, vi aR.tries, vi aR.crew])), (8, I 1048576)] ?_ rfl ?_))))
  · as_aux_lemma => kernel_rfl
  refine OPC (CALL 10 #[.agg #[.slice aR_seats_a aR.seats.length aR_seats_c, vi aR.tiers, vi aR.room, vi aR.size, vi aR.period, vi aR.window, vi aR.rest, vi aR.tries, vi aR.crew], vi 1048576] (some 9) ?_ [] [] _ rfl (RV (vi (szRules aR 1048576))) (fun w hw => szRules_c w aR aR_seats_a aR_seats_c (haR_seats.fr hw.fr) 1048576) (by rintro _ ⟨⟩; exact Nat.le_of_ble_eq_true rfl) ?_)
  · as_aux_lemma => kernel_rfl
  rintro ⟨⟩
  refine RUN0 1 [] [(1, .p 0 0), (3, I (szRules aR 1048576))] ?_ rfl ?_
  · as_aux_lemma => kernel_rfl
  refine ENDOPS (NEXT (SEQ (SEQ (REGION [0, 1] rfl (RUN0 2 [] [(1, .p 0 0), (11, B (decide ((szRules aR 1048576) < 0)))] ?_ rfl ?_)))))
  · as_aux_lemma => kernel_rfl
  refine ENDOPS (NEXT (IF (decide ((szRules aR 1048576) < 0)) ?_ (fun bh1 => ?_) (fun bh1 => ?_)))
  · as_aux_lemma => kernel_rfl
  · -- decide ((szRules aR 1048576) < 0) = true
    have h1 := bh1
    have h1 := of_decide_eq_true h1
    refine SEQ (REGION [0] rfl (RUN0 1 [] [(2, B true)] ?_ rfl ?_))
    · as_aux_lemma => kernel_rfl
    refine ENDOPS (NEXT (RET (PASS trivial (FIN (.bool true) ?_ () ?_ [] ?_))))
    · as_aux_lemma => kernel_rfl
    · simp_all [RV, eqRules_refl]
    · rfl
  · -- decide ((szRules aR 1048576) < 0) = false
    have h1 := bh1
    have h1 := of_decide_eq_false h1
    have hb := szRules_len haR_seats_len h1
    refine SKIP (NEXT (SEQ (REGION [0, 1, 2, 3] rfl (RUN0 1 [1, 2, 3] [(1, .p 0 0), (12, .v (.agg #[.slice aR_seats_a aR.seats.length aR_seats_c, vi aR.tiers, vi aR.room, vi aR.size, vi aR.period, vi aR.window, vi aR.rest, vi aR.tries, vi aR.crew]))] ?_ rfl ?_))))
    · as_aux_lemma => kernel_rfl
    refine OPC (CALL 12 #[.agg #[.slice aR_seats_a aR.seats.length aR_seats_c, vi aR.tiers, vi aR.room, vi aR.size, vi aR.period, vi aR.window, vi aR.rest, vi aR.tries, vi aR.crew]] (some 13) ?_ [] [] _ rfl (⟨HH, fun p => .agg #[.slice p.1 aR.seats.length p.2, vi aR.tiers, vi aR.room, vi aR.size, vi aR.period, vi aR.window, vi aR.rest, vi aR.tries, vi aR.crew], fun p => [slA 3 intL (.slice p.1 aR.seats.length p.2) aR.seats]⟩) (fun w hw => toRules_c w aR aR_seats_a aR_seats_c (haR_seats.fr hw.fr) (by omega)) (by rintro _ ⟨⟩; exact Nat.le_of_ble_eq_true rfl) ?_)
    · as_aux_lemma => kernel_rfl
    rintro ⟨a2, c3⟩
    refine OPC (CALL 15 #[.agg #[.slice a2 aR.seats.length c3, vi aR.tiers, vi aR.room, vi aR.size, vi aR.period, vi aR.window, vi aR.rest, vi aR.tries, vi aR.crew]] (some 14) ?_ [] [] _ rfl (RV (vi (snapMost aR))) (fun w hw => sSnapMost_c w aR a2 c3 (Rd.own (hw.own 0 rfl))) (by rintro _ ⟨⟩; exact Nat.le_of_ble_eq_true rfl) ?_)
    · as_aux_lemma => kernel_rfl
    rintro ⟨⟩
    refine RUN0 1 [] [(1, .p 0 0), (4, I (snapMost aR))] ?_ rfl ?_
    · as_aux_lemma => kernel_rfl
    refine ENDOPS (NEXT (SEQ (REGION [0, 1, 2, 3] rfl (RUN0 1 [1, 2, 3] [(1, .p 0 0), (4, I (snapMost aR)), (15, .v (.agg #[.slice aR_seats_a aR.seats.length aR_seats_c, vi aR.tiers, vi aR.room, vi aR.size, vi aR.period, vi aR.window, vi aR.rest, vi aR.tries, vi aR.crew]))] ?_ rfl ?_))))
    · as_aux_lemma => kernel_rfl
    refine OPC (CALL 12 #[.agg #[.slice aR_seats_a aR.seats.length aR_seats_c, vi aR.tiers, vi aR.room, vi aR.size, vi aR.period, vi aR.window, vi aR.rest, vi aR.tries, vi aR.crew]] (some 16) ?_ [] [] _ rfl (⟨HH, fun p => .agg #[.slice p.1 aR.seats.length p.2, vi aR.tiers, vi aR.room, vi aR.size, vi aR.period, vi aR.window, vi aR.rest, vi aR.tries, vi aR.crew], fun p => [slA 3 intL (.slice p.1 aR.seats.length p.2) aR.seats]⟩) (fun w hw => toRules_c w aR aR_seats_a aR_seats_c (haR_seats.fr hw.fr) (by omega)) (by rintro _ ⟨⟩; exact Nat.le_of_ble_eq_true rfl) ?_)
    · as_aux_lemma => kernel_rfl
    rintro ⟨a4, c5⟩
    refine RUN 2 [] [(1, .p 0 0), (4, I (snapMost aR)), (5, .p 1 0)] [(26, [.slice aR_seats_a aR.seats.length aR_seats_c, vi aR.tiers, vi aR.room, vi aR.size, vi aR.period, vi aR.window, vi aR.rest, vi aR.tries, vi aR.crew]), (29, [.slice a4 aR.seats.length c5, vi aR.tiers, vi aR.room, vi aR.size, vi aR.period, vi aR.window, vi aR.rest, vi aR.tries, vi aR.crew])] ?_ rfl ?_
    · as_aux_lemma => kernel_rfl
    refine ENDOPS (NEXT (SEQ (REGION [0, 1, 2] rfl (RUN0 1 [1, 2] [(1, .p 0 0), (4, I (snapMost aR)), (5, .p 1 0), (17, .v (.agg #[.slice a4 aR.seats.length c5, vi aR.tiers, vi aR.room, vi aR.size, vi aR.period, vi aR.window, vi aR.rest, vi aR.tries, vi aR.crew]))] ?_ rfl ?_))))
    · as_aux_lemma => kernel_rfl
    refine OPC (CALL 16 #[.agg #[.slice a4 aR.seats.length c5, vi aR.tiers, vi aR.room, vi aR.size, vi aR.period, vi aR.window, vi aR.rest, vi aR.tries, vi aR.crew]] (some 18) ?_ [] [] _ rfl (RV (vi (snapMost aR))) (fun w hw => iSnapMost_c w aR a4 c5 (Rd.own (hw.own 1 rfl))) (by rintro _ ⟨⟩; exact Nat.le_of_ble_eq_true rfl) ?_)
    · as_aux_lemma => kernel_rfl
    rintro ⟨⟩
    refine RUN0 1 [] [(1, .p 0 0), (4, I (snapMost aR)), (5, .p 1 0), (6, I (snapMost aR))] ?_ rfl ?_
    · as_aux_lemma => kernel_rfl
    refine ENDOPS (NEXT (SEQ (SEQ (REGION [0, 1, 2] rfl (RUN0 3 [] [(1, .p 0 0), (5, .p 1 0), (21, B ((snapMost aR) != (snapMost aR)))] ?_ rfl ?_)))))
    · as_aux_lemma => kernel_rfl
    refine ENDOPS (NEXT (IF ((snapMost aR) != (snapMost aR)) ?_ (fun bh6 => ?_) (fun bh6 => ?_)))
    · as_aux_lemma => kernel_rfl
    · -- (snapMost aR) != (snapMost aR) = true
      have h6 := bh6
      have h6 := bne_iff_ne.1 h6
      refine SEQ (REGION [0] rfl (RUN0 1 [] [(2, B false)] ?_ rfl ?_))
      · as_aux_lemma => kernel_rfl
      refine ENDOPS (NEXT (RET (PASS trivial (FIN (.bool false) ?_ () ?_ [] ?_))))
      · as_aux_lemma => kernel_rfl
      · simp_all [RV, eqRules_refl]
      · rfl
    · -- (snapMost aR) != (snapMost aR) = false
      have h6 := bh6
      have h6 := bneF h6
      refine SKIP (NEXT (SEQ (SEQ (REGIOND ?_ 5 rfl ?_))))
      · as_aux_lemma => kernel_rfl
      refine ANY2 0 1 ?_ ?_ ?_
      · as_aux_lemma => kernel_rfl
      · -- operation 0 next
        refine RUNO [(1, .p 0 0), (22, .v (.agg #[.slice a4 aR.seats.length c5, vi aR.tiers, vi aR.room, vi aR.size, vi aR.period, vi aR.window, vi aR.rest, vi aR.tries, vi aR.crew]))] [(26, [.slice aR_seats_a aR.seats.length aR_seats_c, vi aR.tiers, vi aR.room, vi aR.size, vi aR.period, vi aR.window, vi aR.rest, vi aR.tries, vi aR.crew]), (29, [.slice a4 aR.seats.length c5, vi aR.tiers, vi aR.room, vi aR.size, vi aR.period, vi aR.window, vi aR.rest, vi aR.tries, vi aR.crew])] ?_ ?_
        · as_aux_lemma => kernel_rfl
        refine ANY1 1 ?_ ?_
        · as_aux_lemma => kernel_rfl
        refine RUNO [(22, .v (.agg #[.slice a4 aR.seats.length c5, vi aR.tiers, vi aR.room, vi aR.size, vi aR.period, vi aR.window, vi aR.rest, vi aR.tries, vi aR.crew])), (23, .v (.agg #[.slice aR_seats_a aR.seats.length aR_seats_c, vi aR.tiers, vi aR.room, vi aR.size, vi aR.period, vi aR.window, vi aR.rest, vi aR.tries, vi aR.crew]))] [(26, [.slice aR_seats_a aR.seats.length aR_seats_c, vi aR.tiers, vi aR.room, vi aR.size, vi aR.period, vi aR.window, vi aR.rest, vi aR.tries, vi aR.crew]), (29, [.slice a4 aR.seats.length c5, vi aR.tiers, vi aR.room, vi aR.size, vi aR.period, vi aR.window, vi aR.rest, vi aR.tries, vi aR.crew])] ?_ ?_
        · as_aux_lemma => kernel_rfl
        refine ANY1 2 ?_ ?_
        · as_aux_lemma => kernel_rfl
        refine CALL 12 #[.agg #[.slice aR_seats_a aR.seats.length aR_seats_c, vi aR.tiers, vi aR.room, vi aR.size, vi aR.period, vi aR.window, vi aR.rest, vi aR.tries, vi aR.crew]] (some 24) ?_ [] [] _ rfl (⟨HH, fun p => .agg #[.slice p.1 aR.seats.length p.2, vi aR.tiers, vi aR.room, vi aR.size, vi aR.period, vi aR.window, vi aR.rest, vi aR.tries, vi aR.crew], fun p => [slA 3 intL (.slice p.1 aR.seats.length p.2) aR.seats]⟩) (fun w hw => toRules_c w aR aR_seats_a aR_seats_c (haR_seats.fr hw.fr) (by omega)) (by rintro _ ⟨⟩; exact Nat.le_of_ble_eq_true rfl) ?_
        · as_aux_lemma => kernel_rfl
        rintro ⟨a7, c8⟩
        refine ANY1 3 ?_ ?_
        · as_aux_lemma => kernel_rfl
        refine CALL 14 #[.agg #[.slice a4 aR.seats.length c5, vi aR.tiers, vi aR.room, vi aR.size, vi aR.period, vi aR.window, vi aR.rest, vi aR.tries, vi aR.crew], .agg #[.slice a7 aR.seats.length c8, vi aR.tiers, vi aR.room, vi aR.size, vi aR.period, vi aR.window, vi aR.rest, vi aR.tries, vi aR.crew]] (some 25) ?_ [] [] _ rfl (RV (.bool (eqRules aR aR))) (fun w hw => eqRules_c w aR a4 c5 (Rd.own (hw.own 1 rfl)) aR a7 c8 (Rd.own (hw.own 2 rfl))) (by rintro _ ⟨⟩; exact Nat.le_of_ble_eq_true rfl) ?_
        · as_aux_lemma => kernel_rfl
        rintro ⟨⟩
        refine ANY1 4 ?_ ?_
        · as_aux_lemma => kernel_rfl
        refine RUNO [(26, B (!(eqRules aR aR)))] [(26, [.slice aR_seats_a aR.seats.length aR_seats_c, vi aR.tiers, vi aR.room, vi aR.size, vi aR.period, vi aR.window, vi aR.rest, vi aR.tries, vi aR.crew]), (29, [.slice a4 aR.seats.length c5, vi aR.tiers, vi aR.room, vi aR.size, vi aR.period, vi aR.window, vi aR.rest, vi aR.tries, vi aR.crew])] ?_ ?_
        · as_aux_lemma => kernel_rfl
        refine ANYEND ?_ ?_
        · as_aux_lemma => kernel_rfl
        refine NEXT (IF (!(eqRules aR aR)) ?_ (fun bh9 => ?_) (fun bh9 => ?_))
        · as_aux_lemma => kernel_rfl
        · -- !(eqRules aR aR) = true
          have h9 := bh9
          have h9 := notT h9
          refine SEQ (REGION [0] rfl (RUN0 1 [] [(2, B false)] ?_ rfl ?_))
          · as_aux_lemma => kernel_rfl
          refine ENDOPS (NEXT (RET (PASS trivial (FIN (.bool false) ?_ () ?_ [] ?_))))
          · as_aux_lemma => kernel_rfl
          · simp_all [RV, eqRules_refl]
          · rfl
        · -- !(eqRules aR aR) = false
          have h9 := bh9
          have h9 := notF h9
          refine SKIP (NEXT (SEQ (REGION [0] rfl (RUN0 1 [] [(2, B true)] ?_ rfl ?_))))
          · as_aux_lemma => kernel_rfl
          refine ENDOPS (NEXT (RET (FIN (.bool true) ?_ () ?_ [] ?_)))
          · as_aux_lemma => kernel_rfl
          · simp_all [RV, eqRules_refl]
          · rfl
      · -- operation 1 next
        refine RUNO [(5, .p 1 0), (23, .v (.agg #[.slice aR_seats_a aR.seats.length aR_seats_c, vi aR.tiers, vi aR.room, vi aR.size, vi aR.period, vi aR.window, vi aR.rest, vi aR.tries, vi aR.crew]))] [(26, [.slice aR_seats_a aR.seats.length aR_seats_c, vi aR.tiers, vi aR.room, vi aR.size, vi aR.period, vi aR.window, vi aR.rest, vi aR.tries, vi aR.crew]), (29, [.slice a4 aR.seats.length c5, vi aR.tiers, vi aR.room, vi aR.size, vi aR.period, vi aR.window, vi aR.rest, vi aR.tries, vi aR.crew])] ?_ ?_
        · as_aux_lemma => kernel_rfl
        refine ANY2 0 2 ?_ ?_ ?_
        · as_aux_lemma => kernel_rfl
        · -- operation 0 next
          refine RUNO [(22, .v (.agg #[.slice a4 aR.seats.length c5, vi aR.tiers, vi aR.room, vi aR.size, vi aR.period, vi aR.window, vi aR.rest, vi aR.tries, vi aR.crew])), (23, .v (.agg #[.slice aR_seats_a aR.seats.length aR_seats_c, vi aR.tiers, vi aR.room, vi aR.size, vi aR.period, vi aR.window, vi aR.rest, vi aR.tries, vi aR.crew]))] [(26, [.slice aR_seats_a aR.seats.length aR_seats_c, vi aR.tiers, vi aR.room, vi aR.size, vi aR.period, vi aR.window, vi aR.rest, vi aR.tries, vi aR.crew]), (29, [.slice a4 aR.seats.length c5, vi aR.tiers, vi aR.room, vi aR.size, vi aR.period, vi aR.window, vi aR.rest, vi aR.tries, vi aR.crew])] ?_ ?_
          · as_aux_lemma => kernel_rfl
          refine ANY1 2 ?_ ?_
          · as_aux_lemma => kernel_rfl
          refine CALL 12 #[.agg #[.slice aR_seats_a aR.seats.length aR_seats_c, vi aR.tiers, vi aR.room, vi aR.size, vi aR.period, vi aR.window, vi aR.rest, vi aR.tries, vi aR.crew]] (some 24) ?_ [] [] _ rfl (⟨HH, fun p => .agg #[.slice p.1 aR.seats.length p.2, vi aR.tiers, vi aR.room, vi aR.size, vi aR.period, vi aR.window, vi aR.rest, vi aR.tries, vi aR.crew], fun p => [slA 3 intL (.slice p.1 aR.seats.length p.2) aR.seats]⟩) (fun w hw => toRules_c w aR aR_seats_a aR_seats_c (haR_seats.fr hw.fr) (by omega)) (by rintro _ ⟨⟩; exact Nat.le_of_ble_eq_true rfl) ?_
          · as_aux_lemma => kernel_rfl
          rintro ⟨a10, c11⟩
          refine ANY1 3 ?_ ?_
          · as_aux_lemma => kernel_rfl
          refine CALL 14 #[.agg #[.slice a4 aR.seats.length c5, vi aR.tiers, vi aR.room, vi aR.size, vi aR.period, vi aR.window, vi aR.rest, vi aR.tries, vi aR.crew], .agg #[.slice a10 aR.seats.length c11, vi aR.tiers, vi aR.room, vi aR.size, vi aR.period, vi aR.window, vi aR.rest, vi aR.tries, vi aR.crew]] (some 25) ?_ [] [] _ rfl (RV (.bool (eqRules aR aR))) (fun w hw => eqRules_c w aR a4 c5 (Rd.own (hw.own 1 rfl)) aR a10 c11 (Rd.own (hw.own 2 rfl))) (by rintro _ ⟨⟩; exact Nat.le_of_ble_eq_true rfl) ?_
          · as_aux_lemma => kernel_rfl
          rintro ⟨⟩
          refine ANY1 4 ?_ ?_
          · as_aux_lemma => kernel_rfl
          refine RUNO [(26, B (!(eqRules aR aR)))] [(26, [.slice aR_seats_a aR.seats.length aR_seats_c, vi aR.tiers, vi aR.room, vi aR.size, vi aR.period, vi aR.window, vi aR.rest, vi aR.tries, vi aR.crew]), (29, [.slice a4 aR.seats.length c5, vi aR.tiers, vi aR.room, vi aR.size, vi aR.period, vi aR.window, vi aR.rest, vi aR.tries, vi aR.crew])] ?_ ?_
          · as_aux_lemma => kernel_rfl
          refine ANYEND ?_ ?_
          · as_aux_lemma => kernel_rfl
          refine NEXT (IF (!(eqRules aR aR)) ?_ (fun bh12 => ?_) (fun bh12 => ?_))
          · as_aux_lemma => kernel_rfl
          · -- !(eqRules aR aR) = true
            have h12 := bh12
            have h12 := notT h12
            refine SEQ (REGION [0] rfl (RUN0 1 [] [(2, B false)] ?_ rfl ?_))
            · as_aux_lemma => kernel_rfl
            refine ENDOPS (NEXT (RET (PASS trivial (FIN (.bool false) ?_ () ?_ [] ?_))))
            · as_aux_lemma => kernel_rfl
            · simp_all [RV, eqRules_refl]
            · rfl
          · -- !(eqRules aR aR) = false
            have h12 := bh12
            have h12 := notF h12
            refine SKIP (NEXT (SEQ (REGION [0] rfl (RUN0 1 [] [(2, B true)] ?_ rfl ?_))))
            · as_aux_lemma => kernel_rfl
            refine ENDOPS (NEXT (RET (FIN (.bool true) ?_ () ?_ [] ?_)))
            · as_aux_lemma => kernel_rfl
            · simp_all [RV, eqRules_refl]
            · rfl
        · -- operation 2 next
          refine CALL 12 #[.agg #[.slice aR_seats_a aR.seats.length aR_seats_c, vi aR.tiers, vi aR.room, vi aR.size, vi aR.period, vi aR.window, vi aR.rest, vi aR.tries, vi aR.crew]] (some 24) ?_ [] [] _ rfl (⟨HH, fun p => .agg #[.slice p.1 aR.seats.length p.2, vi aR.tiers, vi aR.room, vi aR.size, vi aR.period, vi aR.window, vi aR.rest, vi aR.tries, vi aR.crew], fun p => [slA 3 intL (.slice p.1 aR.seats.length p.2) aR.seats]⟩) (fun w hw => toRules_c w aR aR_seats_a aR_seats_c (haR_seats.fr hw.fr) (by omega)) (by rintro _ ⟨⟩; exact Nat.le_of_ble_eq_true rfl) ?_
          · as_aux_lemma => kernel_rfl
          rintro ⟨a13, c14⟩
          refine ANY1 0 ?_ ?_
          · as_aux_lemma => kernel_rfl
          refine RUNO [(22, .v (.agg #[.slice a4 aR.seats.length c5, vi aR.tiers, vi aR.room, vi aR.size, vi aR.period, vi aR.window, vi aR.rest, vi aR.tries, vi aR.crew])), (24, .v (.agg #[.slice a13 aR.seats.length c14, vi aR.tiers, vi aR.room, vi aR.size, vi aR.period, vi aR.window, vi aR.rest, vi aR.tries, vi aR.crew]))] [(26, [.slice aR_seats_a aR.seats.length aR_seats_c, vi aR.tiers, vi aR.room, vi aR.size, vi aR.period, vi aR.window, vi aR.rest, vi aR.tries, vi aR.crew]), (29, [.slice a4 aR.seats.length c5, vi aR.tiers, vi aR.room, vi aR.size, vi aR.period, vi aR.window, vi aR.rest, vi aR.tries, vi aR.crew])] ?_ ?_
          · as_aux_lemma => kernel_rfl
          refine ANY1 3 ?_ ?_
          · as_aux_lemma => kernel_rfl
          refine CALL 14 #[.agg #[.slice a4 aR.seats.length c5, vi aR.tiers, vi aR.room, vi aR.size, vi aR.period, vi aR.window, vi aR.rest, vi aR.tries, vi aR.crew], .agg #[.slice a13 aR.seats.length c14, vi aR.tiers, vi aR.room, vi aR.size, vi aR.period, vi aR.window, vi aR.rest, vi aR.tries, vi aR.crew]] (some 25) ?_ [] [] _ rfl (RV (.bool (eqRules aR aR))) (fun w hw => eqRules_c w aR a4 c5 (Rd.own (hw.own 1 rfl)) aR a13 c14 (Rd.own (hw.own 2 rfl))) (by rintro _ ⟨⟩; exact Nat.le_of_ble_eq_true rfl) ?_
          · as_aux_lemma => kernel_rfl
          rintro ⟨⟩
          refine ANY1 4 ?_ ?_
          · as_aux_lemma => kernel_rfl
          refine RUNO [(26, B (!(eqRules aR aR)))] [(26, [.slice aR_seats_a aR.seats.length aR_seats_c, vi aR.tiers, vi aR.room, vi aR.size, vi aR.period, vi aR.window, vi aR.rest, vi aR.tries, vi aR.crew]), (29, [.slice a4 aR.seats.length c5, vi aR.tiers, vi aR.room, vi aR.size, vi aR.period, vi aR.window, vi aR.rest, vi aR.tries, vi aR.crew])] ?_ ?_
          · as_aux_lemma => kernel_rfl
          refine ANYEND ?_ ?_
          · as_aux_lemma => kernel_rfl
          refine NEXT (IF (!(eqRules aR aR)) ?_ (fun bh15 => ?_) (fun bh15 => ?_))
          · as_aux_lemma => kernel_rfl
          · -- !(eqRules aR aR) = true
            have h15 := bh15
            have h15 := notT h15
            refine SEQ (REGION [0] rfl (RUN0 1 [] [(2, B false)] ?_ rfl ?_))
            · as_aux_lemma => kernel_rfl
            refine ENDOPS (NEXT (RET (PASS trivial (FIN (.bool false) ?_ () ?_ [] ?_))))
            · as_aux_lemma => kernel_rfl
            · simp_all [RV, eqRules_refl]
            · rfl
          · -- !(eqRules aR aR) = false
            have h15 := bh15
            have h15 := notF h15
            refine SKIP (NEXT (SEQ (REGION [0] rfl (RUN0 1 [] [(2, B true)] ?_ rfl ?_))))
            · as_aux_lemma => kernel_rfl
            refine ENDOPS (NEXT (RET (FIN (.bool true) ?_ () ?_ [] ?_)))
            · as_aux_lemma => kernel_rfl
            · simp_all [RV, eqRules_refl]
            · rfl

theorem l12Field_c (W : World) (x : Int) : Spec Try.prog W [] 34 #[vi x] (RV (.bool (usedB x))) := by
  refine ENTER0 (N := 5) (vs := [vi x]) Try.func34 rfl rfl (Nat.le_of_ble_eq_true rfl) ?_
  refine SEQ (REGION [0] rfl (RUN0 1 [] [(0, I x)] ?_ rfl ?_))
  · as_aux_lemma => kernel_rfl
  refine ENDOPS (NEXT (SEQ (REGION [0, 1, 2] rfl (RUN0 1 [1, 2] [(3, I x)] ?_ rfl ?_))))
  · as_aux_lemma => kernel_rfl
  refine OPC (CALL 25 #[vi x, vi 0, vi 9999] (some 4) ?_ [] [] _ rfl (RV (.bool (inB x 0 9999))) (fun w hw => l1In_c w x 0 9999) (by rintro _ ⟨⟩; exact Nat.le_of_ble_eq_true rfl) ?_)
  · as_aux_lemma => kernel_rfl
  rintro ⟨⟩
  refine RUN0 1 [] [(2, B (inB x 0 9999))] ?_ rfl ?_
  · as_aux_lemma => kernel_rfl
  refine ENDOPS (NEXT (RET (FIN (.bool (inB x 0 9999)) ?_ () ?_ [] ?_)))
  · as_aux_lemma => kernel_rfl
  · simp [RV, usedB]
  · rfl

theorem iReqOk1_c (W : World) (n : Int) : Spec Try.prog W [] 39 #[vi n] (RV (.bool (usedB n))) := by
  refine ENTER0 (N := 5) (vs := [vi n]) Try.func39 rfl rfl (Nat.le_of_ble_eq_true rfl) ?_
  refine SEQ (REGION [0] rfl (RUN0 1 [] [(0, I n)] ?_ rfl ?_))
  · as_aux_lemma => kernel_rfl
  refine ENDOPS (NEXT (SEQ (REGION [0, 1, 2] rfl (RUN0 1 [1, 2] [(3, I n)] ?_ rfl ?_))))
  · as_aux_lemma => kernel_rfl
  refine OPC (CALL 26 #[vi n, vi 0, vi 9999] (some 4) ?_ [] [] _ rfl (RV (.bool (inB n 0 9999))) (fun w hw => within_c w n 0 9999) (by rintro _ ⟨⟩; exact Nat.le_of_ble_eq_true rfl) ?_)
  · as_aux_lemma => kernel_rfl
  rintro ⟨⟩
  refine RUN0 1 [] [(2, B (inB n 0 9999))] ?_ rfl ?_
  · as_aux_lemma => kernel_rfl
  refine ENDOPS (NEXT (RET (FIN (.bool (inB n 0 9999)) ?_ () ?_ [] ?_)))
  · as_aux_lemma => kernel_rfl
  · simp [RV, usedB]
  · rfl

theorem sReqOk_c (W : World) (q : Req) : Spec Try.prog W [] 33 #[.agg #[vi q.kind, vi q.id, vi q.cabin, vi q.from', vi q.size, vi q.tier]] (RV (.bool (reqOk q))) := by
  refine ENTER0 (N := 75) (vs := [.agg #[vi q.kind, vi q.id, vi q.cabin, vi q.from', vi q.size, vi q.tier]]) Try.func33 rfl rfl (Nat.le_of_ble_eq_true rfl) ?_
  refine SEQ (REGION [0, 1] rfl (RUN 2 [] [(1, .p 0 0)] [(41, [vi q.kind, vi q.id, vi q.cabin, vi q.from', vi q.size, vi q.tier])] ?_ rfl ?_))
  · as_aux_lemma => kernel_rfl
  refine ENDOPS (NEXT (SEQ (SEQ (REGION [0, 1] rfl (RUN0 2 [] [(1, .p 0 0), (4, I q.kind)] ?_ rfl ?_)))))
  · as_aux_lemma => kernel_rfl
  refine ENDOPS (NEXT (BLOCK (SEQ (REGION [0, 1] rfl (RUN0 2 [] [(1, .p 0 0), (4, I q.kind), (5, B (q.kind == 1))] ?_ rfl ?_)))))
  · as_aux_lemma => kernel_rfl
  refine ENDOPS (NEXT (IF (q.kind == 1) ?_ (fun bh1 => ?_) (fun bh1 => ?_)))
  · as_aux_lemma => kernel_rfl
  · -- q.kind == 1 = true
    have h1 := bh1
    have h1 := eq_of_beq h1
    refine SEQ (REGION [0, 1, 2, 3, 4, 5, 6, 7, 8, 9, 10, 11, 12, 13, 14, 15, 16, 17, 18, 19, 20, 21, 22, 23] rfl (RUN0 2 [2, 3, 4, 5, 6, 7, 8, 9, 10, 11, 12, 13, 14, 15, 16, 17, 18, 19, 20, 21, 22, 23] [(1, .p 0 0), (8, I q.id)] ?_ rfl ?_))
    · as_aux_lemma => kernel_rfl
    refine OPC (CALL 34 #[vi q.id] (some 9) ?_ [] [] _ rfl (RV (.bool (usedB q.id))) (fun w hw => l12Field_c w q.id) (by rintro _ ⟨⟩; exact Nat.le_of_ble_eq_true rfl) ?_)
    · as_aux_lemma => kernel_rfl
    rintro ⟨⟩
    refine RUN0 1 [4, 5, 6, 7, 8, 9, 10, 11, 12, 13, 14, 15, 16, 17, 18, 19, 20, 21, 22, 23] [(1, .p 0 0), (10, B (usedB q.id))] ?_ rfl ?_
    · as_aux_lemma => kernel_rfl
    refine SPLIT (d := 10) (usedB q.id) ?_ (fun bh2 => ?_) (fun bh2 => ?_)
    · as_aux_lemma => kernel_rfl
    · -- usedB q.id = true
      have h2 := bh2
      refine RUN0 2 [6, 7, 8, 9, 10, 11, 12, 13, 14, 15, 16, 17, 18, 19, 20, 21, 22, 23] [(1, .p 0 0), (10, B true), (12, I q.cabin)] ?_ rfl ?_
      · as_aux_lemma => kernel_rfl
      refine OPC (CALL 34 #[vi q.cabin] (some 13) ?_ [] [] _ rfl (RV (.bool (usedB q.cabin))) (fun w hw => l12Field_c w q.cabin) (by rintro _ ⟨⟩; exact Nat.le_of_ble_eq_true rfl) ?_)
      · as_aux_lemma => kernel_rfl
      rintro ⟨⟩
      refine RUN0 2 [9, 10, 11, 12, 13, 14, 15, 16, 17, 18, 19, 20, 21, 22, 23] [(1, .p 0 0), (15, B (usedB q.cabin))] ?_ rfl ?_
      · as_aux_lemma => kernel_rfl
      refine SPLIT (d := 15) (usedB q.cabin) ?_ (fun bh3 => ?_) (fun bh3 => ?_)
      · as_aux_lemma => kernel_rfl
      · -- usedB q.cabin = true
        have h3 := bh3
        refine RUN0 2 [11, 12, 13, 14, 15, 16, 17, 18, 19, 20, 21, 22, 23] [(1, .p 0 0), (15, B true), (17, I q.from')] ?_ rfl ?_
        · as_aux_lemma => kernel_rfl
        refine OPC (CALL 25 #[vi q.from', vi (-1), vi 9999] (some 18) ?_ [] [] _ rfl (RV (.bool (inB q.from' (-1) 9999))) (fun w hw => l1In_c w q.from' (-1) 9999) (by rintro _ ⟨⟩; exact Nat.le_of_ble_eq_true rfl) ?_)
        · as_aux_lemma => kernel_rfl
        rintro ⟨⟩
        refine RUN0 2 [14, 15, 16, 17, 18, 19, 20, 21, 22, 23] [(1, .p 0 0), (20, B (inB q.from' (-1) 9999))] ?_ rfl ?_
        · as_aux_lemma => kernel_rfl
        refine SPLIT (d := 20) (inB q.from' (-1) 9999) ?_ (fun bh4 => ?_) (fun bh4 => ?_)
        · as_aux_lemma => kernel_rfl
        · -- inB q.from' (-1) 9999 = true
          have h4 := bh4
          refine RUN0 2 [16, 17, 18, 19, 20, 21, 22, 23] [(1, .p 0 0), (20, B true), (22, I q.size)] ?_ rfl ?_
          · as_aux_lemma => kernel_rfl
          refine OPC (CALL 34 #[vi q.size] (some 23) ?_ [] [] _ rfl (RV (.bool (usedB q.size))) (fun w hw => l12Field_c w q.size) (by rintro _ ⟨⟩; exact Nat.le_of_ble_eq_true rfl) ?_)
          · as_aux_lemma => kernel_rfl
          rintro ⟨⟩
          refine RUN0 2 [19, 20, 21, 22, 23] [(1, .p 0 0), (25, B (usedB q.size))] ?_ rfl ?_
          · as_aux_lemma => kernel_rfl
          refine SPLIT (d := 25) (usedB q.size) ?_ (fun bh5 => ?_) (fun bh5 => ?_)
          · as_aux_lemma => kernel_rfl
          · -- usedB q.size = true
            have h5 := bh5
            refine RUN0 2 [21, 22, 23] [(25, B true), (27, I q.tier)] ?_ rfl ?_
            · as_aux_lemma => kernel_rfl
            refine OPC (CALL 34 #[vi q.tier] (some 28) ?_ [] [] _ rfl (RV (.bool (usedB q.tier))) (fun w hw => l12Field_c w q.tier) (by rintro _ ⟨⟩; exact Nat.le_of_ble_eq_true rfl) ?_)
            · as_aux_lemma => kernel_rfl
            rintro ⟨⟩
            refine RUN0 2 [] [(2, B (usedB q.tier))] ?_ rfl ?_
            · as_aux_lemma => kernel_rfl
            refine ENDOPS (NEXT (RET (OUTR (PASS trivial (FIN (.bool (usedB q.tier)) ?_ () ?_ [] ?_)))))
            · as_aux_lemma => kernel_rfl
            · simp [RV, reqOk, reqEq, *]
            · rfl
          · -- usedB q.size = false
            have h5 := bh5
            refine RUN0 5 [] [(2, B false)] ?_ rfl ?_
            · as_aux_lemma => kernel_rfl
            refine ENDOPS (NEXT (RET (OUTR (PASS trivial (FIN (.bool false) ?_ () ?_ [] ?_)))))
            · as_aux_lemma => kernel_rfl
            · simp [RV, reqOk, reqEq, *]
            · rfl
        · -- inB q.from' (-1) 9999 = false
          have h4 := bh4
          refine RUN0 10 [] [(2, B false)] ?_ rfl ?_
          · as_aux_lemma => kernel_rfl
          refine ENDOPS (NEXT (RET (OUTR (PASS trivial (FIN (.bool false) ?_ () ?_ [] ?_)))))
          · as_aux_lemma => kernel_rfl
          · simp [RV, reqOk, reqEq, *]
          · rfl
      · -- usedB q.cabin = false
        have h3 := bh3
        refine RUN0 15 [] [(2, B false)] ?_ rfl ?_
        · as_aux_lemma => kernel_rfl
        refine ENDOPS (NEXT (RET (OUTR (PASS trivial (FIN (.bool false) ?_ () ?_ [] ?_)))))
        · as_aux_lemma => kernel_rfl
        · simp [RV, reqOk, reqEq, *]
        · rfl
    · -- usedB q.id = false
      have h2 := bh2
      refine RUN0 20 [] [(2, B false)] ?_ rfl ?_
      · as_aux_lemma => kernel_rfl
      refine ENDOPS (NEXT (RET (OUTR (PASS trivial (FIN (.bool false) ?_ () ?_ [] ?_)))))
      · as_aux_lemma => kernel_rfl
      · simp [RV, reqOk, reqEq, *]
      · rfl
  · -- q.kind == 1 = false
    have h1 := bh1
    have h1 := ne_of_beq_false h1
    refine SEQ (SEQ (REGION [0, 1] rfl (RUN0 2 [] [(1, .p 0 0), (4, I q.kind), (30, B (q.kind == 2))] ?_ rfl ?_)))
    · as_aux_lemma => kernel_rfl
    refine ENDOPS (NEXT (IF (q.kind == 2) ?_ (fun bh6 => ?_) (fun bh6 => ?_)))
    · as_aux_lemma => kernel_rfl
    · -- q.kind == 2 = true
      have h6 := bh6
      have h6 := eq_of_beq h6
      refine SKIP (NEXT (IF (q.kind == 2) ?_ (fun bh7 => ?_) (fun bh7 => ?_)))
      · as_aux_lemma => kernel_rfl
      · -- q.kind == 2 = true
        have h7 := bh7
        have h7 := eq_of_beq h7
        refine SEQ (REGION [0, 1, 2, 3, 4, 5, 6, 7, 8, 9, 10, 11, 12] rfl (RUN0 2 [2, 3, 4, 5, 6, 7, 8, 9, 10, 11, 12] [(1, .p 0 0), (36, I q.id)] ?_ rfl ?_))
        · as_aux_lemma => kernel_rfl
        refine OPC (CALL 34 #[vi q.id] (some 37) ?_ [] [] _ rfl (RV (.bool (usedB q.id))) (fun w hw => l12Field_c w q.id) (by rintro _ ⟨⟩; exact Nat.le_of_ble_eq_true rfl) ?_)
        · as_aux_lemma => kernel_rfl
        rintro ⟨⟩
        refine RUN0 1 [4, 5, 6, 7, 8, 9, 10, 11, 12] [(1, .p 0 0), (38, B (usedB q.id))] ?_ rfl ?_
        · as_aux_lemma => kernel_rfl
        refine SPLIT (d := 38) (usedB q.id) ?_ (fun bh8 => ?_) (fun bh8 => ?_)
        · as_aux_lemma => kernel_rfl
        · -- usedB q.id = true
          have h8 := bh8
          refine RUN0 6 [10, 11, 12] [(38, B true), (39, .v (.agg #[vi q.kind, vi q.id, vi q.cabin, vi q.from', vi q.size, vi q.tier])), (44, .v (.agg #[vi q.kind, vi q.id, vi 0, vi 0, vi 0, vi 0]))] ?_ rfl ?_
          · as_aux_lemma => kernel_rfl
          refine OPC (RUNV (.binOp .eql 41 (.tmp 39) (.tmp 44) 41) 45 4 ?_ (Nat.le_of_ble_eq_true rfl) (.bool ((q.kind == q.kind) && ((q.id == q.id) && ((q.cabin == 0) && ((q.from' == 0) && ((q.size == 0) && ((q.tier == 0) && true))))))) (runs_eql (xs := [vi q.kind, vi q.id, vi q.cabin, vi q.from', vi q.size, vi q.tier]) (ys := [vi q.kind, vi q.id, vi 0, vi 0, vi 0, vi 0]) (r := (q.kind == q.kind) && ((q.id == q.id) && ((q.cabin == 0) && ((q.from' == 0) && ((q.size == 0) && ((q.tier == 0) && true)))))) ?_ ?_ ?_) ?_)
          · as_aux_lemma => kernel_rfl
          · as_aux_lemma => kernel_rfl
          · as_aux_lemma => kernel_rfl
          · as_aux_lemma => kernel_rfl
          refine RUN0 2 [] [(2, B ((q.kind == q.kind) && ((q.id == q.id) && ((q.cabin == 0) && ((q.from' == 0) && ((q.size == 0) && ((q.tier == 0) && true)))))))] ?_ rfl ?_
          · as_aux_lemma => kernel_rfl
          refine ENDOPS (NEXT (RET (OUTR (PASS trivial (FIN (.bool ((q.kind == q.kind) && ((q.id == q.id) && ((q.cabin == 0) && ((q.from' == 0) && ((q.size == 0) && ((q.tier == 0) && true))))))) ?_ () ?_ [] ?_)))))
          · as_aux_lemma => kernel_rfl
          · simp [RV, reqOk, reqEq, *]
          · rfl
        · -- usedB q.id = false
          have h8 := bh8
          refine RUN0 9 [] [(2, B false)] ?_ rfl ?_
          · as_aux_lemma => kernel_rfl
          refine ENDOPS (NEXT (RET (OUTR (PASS trivial (FIN (.bool false) ?_ () ?_ [] ?_)))))
          · as_aux_lemma => kernel_rfl
          · simp [RV, reqOk, reqEq, *]
          · rfl
      · exact Bool.noConfusion (bh6.symm.trans bh7)
    · -- q.kind == 2 = false
      have h6 := bh6
      have h6 := ne_of_beq_false h6
      refine SEQ (REGION [0, 1] rfl (RUN0 2 [] [(1, .p 0 0), (4, I q.kind), (30, B (q.kind == 4))] ?_ rfl ?_))
      · as_aux_lemma => kernel_rfl
      refine ENDOPS (NEXT (IF (q.kind == 4) ?_ (fun bh9 => ?_) (fun bh9 => ?_)))
      · as_aux_lemma => kernel_rfl
      · -- q.kind == 4 = true
        have h9 := bh9
        have h9 := eq_of_beq h9
        refine SKIP (NEXT (IF (q.kind == 4) ?_ (fun bh10 => ?_) (fun bh10 => ?_)))
        · as_aux_lemma => kernel_rfl
        · -- q.kind == 4 = true
          have h10 := bh10
          have h10 := eq_of_beq h10
          refine SEQ (REGION [0, 1, 2, 3, 4, 5, 6, 7, 8, 9, 10, 11, 12] rfl (RUN0 2 [2, 3, 4, 5, 6, 7, 8, 9, 10, 11, 12] [(1, .p 0 0), (36, I q.id)] ?_ rfl ?_))
          · as_aux_lemma => kernel_rfl
          refine OPC (CALL 34 #[vi q.id] (some 37) ?_ [] [] _ rfl (RV (.bool (usedB q.id))) (fun w hw => l12Field_c w q.id) (by rintro _ ⟨⟩; exact Nat.le_of_ble_eq_true rfl) ?_)
          · as_aux_lemma => kernel_rfl
          rintro ⟨⟩
          refine RUN0 1 [4, 5, 6, 7, 8, 9, 10, 11, 12] [(1, .p 0 0), (38, B (usedB q.id))] ?_ rfl ?_
          · as_aux_lemma => kernel_rfl
          refine SPLIT (d := 38) (usedB q.id) ?_ (fun bh11 => ?_) (fun bh11 => ?_)
          · as_aux_lemma => kernel_rfl
          · -- usedB q.id = true
            have h11 := bh11
            refine RUN0 6 [10, 11, 12] [(38, B true), (39, .v (.agg #[vi q.kind, vi q.id, vi q.cabin, vi q.from', vi q.size, vi q.tier])), (44, .v (.agg #[vi q.kind, vi q.id, vi 0, vi 0, vi 0, vi 0]))] ?_ rfl ?_
            · as_aux_lemma => kernel_rfl
            refine OPC (RUNV (.binOp .eql 41 (.tmp 39) (.tmp 44) 41) 45 4 ?_ (Nat.le_of_ble_eq_true rfl) (.bool ((q.kind == q.kind) && ((q.id == q.id) && ((q.cabin == 0) && ((q.from' == 0) && ((q.size == 0) && ((q.tier == 0) && true))))))) (runs_eql (xs := [vi q.kind, vi q.id, vi q.cabin, vi q.from', vi q.size, vi q.tier]) (ys := [vi q.kind, vi q.id, vi 0, vi 0, vi 0, vi 0]) (r := (q.kind == q.kind) && ((q.id == q.id) && ((q.cabin == 0) && ((q.from' == 0) && ((q.size == 0) && ((q.tier == 0) && true)))))) ?_ ?_ ?_) ?_)
            · as_aux_lemma => kernel_rfl
            · as_aux_lemma => kernel_rfl
            · as_aux_lemma => kernel_rfl
            · as_aux_lemma => kernel_rfl
            refine RUN0 2 [] [(2, B ((q.kind == q.kind) && ((q.id == q.id) && ((q.cabin == 0) && ((q.from' == 0) && ((q.size == 0) && ((q.tier == 0) && true)))))))] ?_ rfl ?_
            · as_aux_lemma => kernel_rfl
            refine ENDOPS (NEXT (RET (OUTR (PASS trivial (FIN (.bool ((q.kind == q.kind) && ((q.id == q.id) && ((q.cabin == 0) && ((q.from' == 0) && ((q.size == 0) && ((q.tier == 0) && true))))))) ?_ () ?_ [] ?_)))))
            · as_aux_lemma => kernel_rfl
            · simp [RV, reqOk, reqEq, *]
            · rfl
          · -- usedB q.id = false
            have h11 := bh11
            refine RUN0 9 [] [(2, B false)] ?_ rfl ?_
            · as_aux_lemma => kernel_rfl
            refine ENDOPS (NEXT (RET (OUTR (PASS trivial (FIN (.bool false) ?_ () ?_ [] ?_)))))
            · as_aux_lemma => kernel_rfl
            · simp [RV, reqOk, reqEq, *]
            · rfl
        · exact Bool.noConfusion (bh9.symm.trans bh10)
      · -- q.kind == 4 = false
        have h9 := bh9
        have h9 := ne_of_beq_false h9
        refine SEQ (REGION [0, 1] rfl (RUN0 2 [] [(1, .p 0 0), (4, I q.kind), (30, B (q.kind == 5))] ?_ rfl ?_))
        · as_aux_lemma => kernel_rfl
        refine ENDOPS (NEXT (IF (q.kind == 5) ?_ (fun bh12 => ?_) (fun bh12 => ?_)))
        · as_aux_lemma => kernel_rfl
        · -- q.kind == 5 = true
          have h12 := bh12
          have h12 := eq_of_beq h12
          refine SKIP (NEXT (IF (q.kind == 5) ?_ (fun bh13 => ?_) (fun bh13 => ?_)))
          · as_aux_lemma => kernel_rfl
          · -- q.kind == 5 = true
            have h13 := bh13
            have h13 := eq_of_beq h13
            refine SEQ (REGION [0, 1, 2, 3, 4, 5, 6, 7, 8, 9, 10, 11, 12] rfl (RUN0 2 [2, 3, 4, 5, 6, 7, 8, 9, 10, 11, 12] [(1, .p 0 0), (36, I q.id)] ?_ rfl ?_))
            · as_aux_lemma => kernel_rfl
            refine OPC (CALL 34 #[vi q.id] (some 37) ?_ [] [] _ rfl (RV (.bool (usedB q.id))) (fun w hw => l12Field_c w q.id) (by rintro _ ⟨⟩; exact Nat.le_of_ble_eq_true rfl) ?_)
            · as_aux_lemma => kernel_rfl
            rintro ⟨⟩
            refine RUN0 1 [4, 5, 6, 7, 8, 9, 10, 11, 12] [(1, .p 0 0), (38, B (usedB q.id))] ?_ rfl ?_
            · as_aux_lemma => kernel_rfl
            refine SPLIT (d := 38) (usedB q.id) ?_ (fun bh14 => ?_) (fun bh14 => ?_)
            · as_aux_lemma => kernel_rfl
            · -- usedB q.id = true
              have h14 := bh14
              refine RUN0 6 [10, 11, 12] [(38, B true), (39, .v (.agg #[vi q.kind, vi q.id, vi q.cabin, vi q.from', vi q.size, vi q.tier])), (44, .v (.agg #[vi q.kind, vi q.id, vi 0, vi 0, vi 0, vi 0]))] ?_ rfl ?_
              · as_aux_lemma => kernel_rfl
              refine OPC (RUNV (.binOp .eql 41 (.tmp 39) (.tmp 44) 41) 45 4 ?_ (Nat.le_of_ble_eq_true rfl) (.bool ((q.kind == q.kind) && ((q.id == q.id) && ((q.cabin == 0) && ((q.from' == 0) && ((q.size == 0) && ((q.tier == 0) && true))))))) (runs_eql (xs := [vi q.kind, vi q.id, vi q.cabin, vi q.from', vi q.size, vi q.tier]) (ys := [vi q.kind, vi q.id, vi 0, vi 0, vi 0, vi 0]) (r := (q.kind == q.kind) && ((q.id == q.id) && ((q.cabin == 0) && ((q.from' == 0) && ((q.size == 0) && ((q.tier == 0) && true)))))) ?_ ?_ ?_) ?_)
              · as_aux_lemma => kernel_rfl
              · as_aux_lemma => kernel_rfl
              · as_aux_lemma => kernel_rfl
              · as_aux_lemma => kernel_rfl
              refine RUN0 2 [] [(2, B ((q.kind == q.kind) && ((q.id == q.id) && ((q.cabin == 0) && ((q.from' == 0) && ((q.size == 0) && ((q.tier == 0) && true)))))))] ?_ rfl ?_
              · as_aux_lemma => kernel_rfl
              refine ENDOPS (NEXT (RET (OUTR (PASS trivial (FIN (.bool ((q.kind == q.kind) && ((q.id == q.id) && ((q.cabin == 0) && ((q.from' == 0) && ((q.size == 0) && ((q.tier == 0) && true))))))) ?_ () ?_ [] ?_)))))
              · as_aux_lemma => kernel_rfl
              · simp [RV, reqOk, reqEq, *]
              · rfl
            · -- usedB q.id = false
              have h14 := bh14
              refine RUN0 9 [] [(2, B false)] ?_ rfl ?_
              · as_aux_lemma => kernel_rfl
              refine ENDOPS (NEXT (RET (OUTR (PASS trivial (FIN (.bool false) ?_ () ?_ [] ?_)))))
              · as_aux_lemma => kernel_rfl
              · simp [RV, reqOk, reqEq, *]
              · rfl
          · exact Bool.noConfusion (bh12.symm.trans bh13)
        · -- q.kind == 5 = false
          have h12 := bh12
          have h12 := ne_of_beq_false h12
          refine REGION [0, 1] rfl (RUN0 2 [] [(1, .p 0 0), (4, I q.kind), (30, B (q.kind == 7))] ?_ rfl ?_)
          · as_aux_lemma => kernel_rfl
          refine ENDOPS (NEXT (IF (q.kind == 7) ?_ (fun bh15 => ?_) (fun bh15 => ?_)))
          · as_aux_lemma => kernel_rfl
          · -- q.kind == 7 = true
            have h15 := bh15
            have h15 := eq_of_beq h15
            refine SEQ (REGION [0, 1, 2, 3, 4, 5, 6, 7, 8, 9, 10, 11, 12] rfl (RUN0 2 [2, 3, 4, 5, 6, 7, 8, 9, 10, 11, 12] [(1, .p 0 0), (36, I q.id)] ?_ rfl ?_))
            · as_aux_lemma => kernel_rfl
            refine OPC (CALL 34 #[vi q.id] (some 37) ?_ [] [] _ rfl (RV (.bool (usedB q.id))) (fun w hw => l12Field_c w q.id) (by rintro _ ⟨⟩; exact Nat.le_of_ble_eq_true rfl) ?_)
            · as_aux_lemma => kernel_rfl
            rintro ⟨⟩
            refine RUN0 1 [4, 5, 6, 7, 8, 9, 10, 11, 12] [(1, .p 0 0), (38, B (usedB q.id))] ?_ rfl ?_
            · as_aux_lemma => kernel_rfl
            refine SPLIT (d := 38) (usedB q.id) ?_ (fun bh16 => ?_) (fun bh16 => ?_)
            · as_aux_lemma => kernel_rfl
            · -- usedB q.id = true
              have h16 := bh16
              refine RUN0 6 [10, 11, 12] [(38, B true), (39, .v (.agg #[vi q.kind, vi q.id, vi q.cabin, vi q.from', vi q.size, vi q.tier])), (44, .v (.agg #[vi q.kind, vi q.id, vi 0, vi 0, vi 0, vi 0]))] ?_ rfl ?_
              · as_aux_lemma => kernel_rfl
              refine OPC (RUNV (.binOp .eql 41 (.tmp 39) (.tmp 44) 41) 45 4 ?_ (Nat.le_of_ble_eq_true rfl) (.bool ((q.kind == q.kind) && ((q.id == q.id) && ((q.cabin == 0) && ((q.from' == 0) && ((q.size == 0) && ((q.tier == 0) && true))))))) (runs_eql (xs := [vi q.kind, vi q.id, vi q.cabin, vi q.from', vi q.size, vi q.tier]) (ys := [vi q.kind, vi q.id, vi 0, vi 0, vi 0, vi 0]) (r := (q.kind == q.kind) && ((q.id == q.id) && ((q.cabin == 0) && ((q.from' == 0) && ((q.size == 0) && ((q.tier == 0) && true)))))) ?_ ?_ ?_) ?_)
              · as_aux_lemma => kernel_rfl
              · as_aux_lemma => kernel_rfl
              · as_aux_lemma => kernel_rfl
              · as_aux_lemma => kernel_rfl
              refine RUN0 2 [] [(2, B ((q.kind == q.kind) && ((q.id == q.id) && ((q.cabin == 0) && ((q.from' == 0) && ((q.size == 0) && ((q.tier == 0) && true)))))))] ?_ rfl ?_
              · as_aux_lemma => kernel_rfl
              refine ENDOPS (NEXT (RET (OUTR (PASS trivial (FIN (.bool ((q.kind == q.kind) && ((q.id == q.id) && ((q.cabin == 0) && ((q.from' == 0) && ((q.size == 0) && ((q.tier == 0) && true))))))) ?_ () ?_ [] ?_)))))
              · as_aux_lemma => kernel_rfl
              · simp [RV, reqOk, reqEq, *]
              · rfl
            · -- usedB q.id = false
              have h16 := bh16
              refine RUN0 9 [] [(2, B false)] ?_ rfl ?_
              · as_aux_lemma => kernel_rfl
              refine ENDOPS (NEXT (RET (OUTR (PASS trivial (FIN (.bool false) ?_ () ?_ [] ?_)))))
              · as_aux_lemma => kernel_rfl
              · simp [RV, reqOk, reqEq, *]
              · rfl
          · -- q.kind == 7 = false
            have h15 := bh15
            have h15 := ne_of_beq_false h15
            refine SEQ (REGION [0, 1] rfl (RUN0 2 [] [(1, .p 0 0), (4, I q.kind), (47, B (q.kind == 3))] ?_ rfl ?_))
            · as_aux_lemma => kernel_rfl
            refine ENDOPS (NEXT (IF (q.kind == 3) ?_ (fun bh17 => ?_) (fun bh17 => ?_)))
            · as_aux_lemma => kernel_rfl
            · -- q.kind == 3 = true
              have h17 := bh17
              have h17 := eq_of_beq h17
              refine SEQ (REGION [0, 1, 2, 3, 4, 5, 6, 7, 8, 9, 10, 11, 12, 13, 14, 15, 16, 17, 18, 19] rfl (RUN0 2 [2, 3, 4, 5, 6, 7, 8, 9, 10, 11, 12, 13, 14, 15, 16, 17, 18, 19] [(1, .p 0 0), (50, I q.cabin)] ?_ rfl ?_))
              · as_aux_lemma => kernel_rfl
              refine OPC (CALL 34 #[vi q.cabin] (some 51) ?_ [] [] _ rfl (RV (.bool (usedB q.cabin))) (fun w hw => l12Field_c w q.cabin) (by rintro _ ⟨⟩; exact Nat.le_of_ble_eq_true rfl) ?_)
              · as_aux_lemma => kernel_rfl
              rintro ⟨⟩
              refine RUN0 1 [4, 5, 6, 7, 8, 9, 10, 11, 12, 13, 14, 15, 16, 17, 18, 19] [(1, .p 0 0), (52, B (usedB q.cabin))] ?_ rfl ?_
              · as_aux_lemma => kernel_rfl
              refine SPLIT (d := 52) (usedB q.cabin) ?_ (fun bh18 => ?_) (fun bh18 => ?_)
              · as_aux_lemma => kernel_rfl
              · -- usedB q.cabin = true
                have h18 := bh18
                refine RUN0 2 [6, 7, 8, 9, 10, 11, 12, 13, 14, 15, 16, 17, 18, 19] [(1, .p 0 0), (52, B true), (54, I q.size)] ?_ rfl ?_
                · as_aux_lemma => kernel_rfl
                refine OPC (CALL 34 #[vi q.size] (some 55) ?_ [] [] _ rfl (RV (.bool (usedB q.size))) (fun w hw => l12Field_c w q.size) (by rintro _ ⟨⟩; exact Nat.le_of_ble_eq_true rfl) ?_)
                · as_aux_lemma => kernel_rfl
                rintro ⟨⟩
                refine RUN0 2 [9, 10, 11, 12, 13, 14, 15, 16, 17, 18, 19] [(1, .p 0 0), (57, B (usedB q.size))] ?_ rfl ?_
                · as_aux_lemma => kernel_rfl
                refine SPLIT (d := 57) (usedB q.size) ?_ (fun bh19 => ?_) (fun bh19 => ?_)
                · as_aux_lemma => kernel_rfl
                · -- usedB q.size = true
                  have h19 := bh19
                  refine RUN0 8 [17, 18, 19] [(57, B true), (58, .v (.agg #[vi q.kind, vi q.id, vi q.cabin, vi q.from', vi q.size, vi q.tier])), (65, .v (.agg #[vi q.kind, vi 0, vi q.cabin, vi 0, vi q.size, vi 0]))] ?_ rfl ?_
                  · as_aux_lemma => kernel_rfl
                  refine OPC (RUNV (.binOp .eql 41 (.tmp 58) (.tmp 65) 41) 66 4 ?_ (Nat.le_of_ble_eq_true rfl) (.bool ((q.kind == q.kind) && ((q.id == 0) && ((q.cabin == q.cabin) && ((q.from' == 0) && ((q.size == q.size) && ((q.tier == 0) && true))))))) (runs_eql (xs := [vi q.kind, vi q.id, vi q.cabin, vi q.from', vi q.size, vi q.tier]) (ys := [vi q.kind, vi 0, vi q.cabin, vi 0, vi q.size, vi 0]) (r := (q.kind == q.kind) && ((q.id == 0) && ((q.cabin == q.cabin) && ((q.from' == 0) && ((q.size == q.size) && ((q.tier == 0) && true)))))) ?_ ?_ ?_) ?_)
                  · as_aux_lemma => kernel_rfl
                  · as_aux_lemma => kernel_rfl
                  · as_aux_lemma => kernel_rfl
                  · as_aux_lemma => kernel_rfl
                  refine RUN0 2 [] [(2, B ((q.kind == q.kind) && ((q.id == 0) && ((q.cabin == q.cabin) && ((q.from' == 0) && ((q.size == q.size) && ((q.tier == 0) && true)))))))] ?_ rfl ?_
                  · as_aux_lemma => kernel_rfl
                  refine ENDOPS (NEXT (RET (OUTR (PASS trivial (FIN (.bool ((q.kind == q.kind) && ((q.id == 0) && ((q.cabin == q.cabin) && ((q.from' == 0) && ((q.size == q.size) && ((q.tier == 0) && true))))))) ?_ () ?_ [] ?_)))))
                  · as_aux_lemma => kernel_rfl
                  · simp [RV, reqOk, reqEq, *]
                  · rfl
                · -- usedB q.size = false
                  have h19 := bh19
                  refine RUN0 11 [] [(2, B false)] ?_ rfl ?_
                  · as_aux_lemma => kernel_rfl
                  refine ENDOPS (NEXT (RET (OUTR (PASS trivial (FIN (.bool false) ?_ () ?_ [] ?_)))))
                  · as_aux_lemma => kernel_rfl
                  · simp [RV, reqOk, reqEq, *]
                  · rfl
              · -- usedB q.cabin = false
                have h18 := bh18
                refine RUN0 16 [] [(2, B false)] ?_ rfl ?_
                · as_aux_lemma => kernel_rfl
                refine ENDOPS (NEXT (RET (OUTR (PASS trivial (FIN (.bool false) ?_ () ?_ [] ?_)))))
                · as_aux_lemma => kernel_rfl
                · simp [RV, reqOk, reqEq, *]
                · rfl
            · -- q.kind == 3 = false
              have h17 := bh17
              have h17 := ne_of_beq_false h17
              refine SEQ (REGION [0, 1] rfl (RUN0 2 [] [(1, .p 0 0), (68, B (q.kind == 6))] ?_ rfl ?_))
              · as_aux_lemma => kernel_rfl
              refine ENDOPS (NEXT (IF (q.kind == 6) ?_ (fun bh20 => ?_) (fun bh20 => ?_)))
              · as_aux_lemma => kernel_rfl
              · -- q.kind == 6 = true
                have h20 := bh20
                have h20 := eq_of_beq h20
                refine SEQ (REGION [0, 1, 2, 3, 4, 5] rfl (RUN0 4 [4, 5] [(70, .v (.agg #[vi q.kind, vi q.id, vi q.cabin, vi q.from', vi q.size, vi q.tier])), (73, .v (.agg #[vi q.kind, vi 0, vi 0, vi 0, vi 0, vi 0]))] ?_ rfl ?_))
                · as_aux_lemma => kernel_rfl
                refine OPC (RUNV (.binOp .eql 41 (.tmp 70) (.tmp 73) 41) 74 4 ?_ (Nat.le_of_ble_eq_true rfl) (.bool ((q.kind == q.kind) && ((q.id == 0) && ((q.cabin == 0) && ((q.from' == 0) && ((q.size == 0) && ((q.tier == 0) && true))))))) (runs_eql (xs := [vi q.kind, vi q.id, vi q.cabin, vi q.from', vi q.size, vi q.tier]) (ys := [vi q.kind, vi 0, vi 0, vi 0, vi 0, vi 0]) (r := (q.kind == q.kind) && ((q.id == 0) && ((q.cabin == 0) && ((q.from' == 0) && ((q.size == 0) && ((q.tier == 0) && true)))))) ?_ ?_ ?_) ?_)
                · as_aux_lemma => kernel_rfl
                · as_aux_lemma => kernel_rfl
                · as_aux_lemma => kernel_rfl
                · as_aux_lemma => kernel_rfl
                refine RUN0 1 [] [(2, B ((q.kind == q.kind) && ((q.id == 0) && ((q.cabin == 0) && ((q.from' == 0) && ((q.size == 0) && ((q.tier == 0) && true)))))))] ?_ rfl ?_
                · as_aux_lemma => kernel_rfl
                refine ENDOPS (NEXT (RET (OUTR (PASS trivial (FIN (.bool ((q.kind == q.kind) && ((q.id == 0) && ((q.cabin == 0) && ((q.from' == 0) && ((q.size == 0) && ((q.tier == 0) && true))))))) ?_ () ?_ [] ?_)))))
                · as_aux_lemma => kernel_rfl
                · simp [RV, reqOk, reqEq, *]
                · rfl
              · -- q.kind == 6 = false
                have h20 := bh20
                have h20 := ne_of_beq_false h20
                refine SKIP (OUTN (NEXT (SEQ (REGION [0] rfl (RUN0 1 [] [(2, B false)] ?_ rfl ?_)))))
                · as_aux_lemma => kernel_rfl
                refine ENDOPS (NEXT (RET (FIN (.bool false) ?_ () ?_ [] ?_)))
                · as_aux_lemma => kernel_rfl
                · simp [RV, reqOk, reqEq, *]
                · rfl

theorem iReqOk_c (W : World) (q : Req) : Spec Try.prog W [] 35 #[.agg #[vi q.kind, vi q.id, vi q.cabin, vi q.from', vi q.size, vi q.tier]] (RV (.bool (reqOk q))) := by
  refine ENTER0 (N := 81) (vs := [.agg #[vi q.kind, vi q.id, vi q.cabin, vi q.from', vi q.size, vi q.tier]]) Try.func35 rfl rfl (Nat.le_of_ble_eq_true rfl) ?_
  refine SEQ (REGION [0, 1] rfl (RUN 2 [] [(1, .p 0 0)] [(41, [vi q.kind, vi q.id, vi q.cabin, vi q.from', vi q.size, vi q.tier])] ?_ rfl ?_))
  · as_aux_lemma => kernel_rfl
  refine ENDOPS (NEXT (SEQ (REGION [0] rfl (RUN0 1 [] [(1, .p 0 0), (3, .v (.func (.func 39) #[] #[]))] ?_ rfl ?_))))
  · as_aux_lemma => kernel_rfl
  refine ENDOPS (NEXT (SEQ (SEQ (REGION [0, 1] rfl (RUN0 2 [] [(1, .p 0 0), (3, .v (.func (.func 39) #[] #[])), (5, I q.kind)] ?_ rfl ?_)))))
  · as_aux_lemma => kernel_rfl
  refine ENDOPS (NEXT (BLOCK (SEQ (REGION [0, 1] rfl (RUN0 2 [] [(1, .p 0 0), (3, .v (.func (.func 39) #[] #[])), (5, I q.kind), (6, B (q.kind == 1))] ?_ rfl ?_)))))
  · as_aux_lemma => kernel_rfl
  refine ENDOPS (NEXT (IF (q.kind == 1) ?_ (fun bh1 => ?_) (fun bh1 => ?_)))
  · as_aux_lemma => kernel_rfl
  · -- q.kind == 1 = true
    have h1 := bh1
    have h1 := eq_of_beq h1
    refine SEQ (REGION [0, 1, 2, 3, 4, 5, 6, 7, 8, 9, 10, 11, 12, 13, 14, 15, 16, 17, 18, 19, 20, 21, 22, 23, 24, 25, 26, 27] rfl (RUN0 3 [3, 4, 5, 6, 7, 8, 9, 10, 11, 12, 13, 14, 15, 16, 17, 18, 19, 20, 21, 22, 23, 24, 25, 26, 27] [(1, .p 0 0), (3, .v (.func (.func 39) #[] #[])), (8, .v (.func (.func 39) #[] #[])), (10, I q.id)] ?_ rfl ?_))
    · as_aux_lemma => kernel_rfl
    refine OPC (CALL 39 #[vi q.id] (some 11) ?_ [] [] _ rfl (RV (.bool (usedB q.id))) (fun w hw => iReqOk1_c w q.id) (by rintro _ ⟨⟩; exact Nat.le_of_ble_eq_true rfl) ?_)
    · as_aux_lemma => kernel_rfl
    rintro ⟨⟩
    refine RUN0 1 [5, 6, 7, 8, 9, 10, 11, 12, 13, 14, 15, 16, 17, 18, 19, 20, 21, 22, 23, 24, 25, 26, 27] [(1, .p 0 0), (3, .v (.func (.func 39) #[] #[])), (12, B (usedB q.id))] ?_ rfl ?_
    · as_aux_lemma => kernel_rfl
    refine SPLIT (d := 12) (usedB q.id) ?_ (fun bh2 => ?_) (fun bh2 => ?_)
    · as_aux_lemma => kernel_rfl
    · -- usedB q.id = true
      have h2 := bh2
      refine RUN0 3 [8, 9, 10, 11, 12, 13, 14, 15, 16, 17, 18, 19, 20, 21, 22, 23, 24, 25, 26, 27] [(1, .p 0 0), (3, .v (.func (.func 39) #[] #[])), (12, B true), (13, .v (.func (.func 39) #[] #[])), (15, I q.cabin)] ?_ rfl ?_
      · as_aux_lemma => kernel_rfl
      refine OPC (CALL 39 #[vi q.cabin] (some 16) ?_ [] [] _ rfl (RV (.bool (usedB q.cabin))) (fun w hw => iReqOk1_c w q.cabin) (by rintro _ ⟨⟩; exact Nat.le_of_ble_eq_true rfl) ?_)
      · as_aux_lemma => kernel_rfl
      rintro ⟨⟩
      refine RUN0 2 [11, 12, 13, 14, 15, 16, 17, 18, 19, 20, 21, 22, 23, 24, 25, 26, 27] [(1, .p 0 0), (3, .v (.func (.func 39) #[] #[])), (18, B (usedB q.cabin))] ?_ rfl ?_
      · as_aux_lemma => kernel_rfl
      refine SPLIT (d := 18) (usedB q.cabin) ?_ (fun bh3 => ?_) (fun bh3 => ?_)
      · as_aux_lemma => kernel_rfl
      · -- usedB q.cabin = true
        have h3 := bh3
        refine RUN0 2 [13, 14, 15, 16, 17, 18, 19, 20, 21, 22, 23, 24, 25, 26, 27] [(1, .p 0 0), (3, .v (.func (.func 39) #[] #[])), (18, B true), (20, I q.from')] ?_ rfl ?_
        · as_aux_lemma => kernel_rfl
        refine OPC (CALL 26 #[vi q.from', vi (-1), vi 9999] (some 21) ?_ [] [] _ rfl (RV (.bool (inB q.from' (-1) 9999))) (fun w hw => within_c w q.from' (-1) 9999) (by rintro _ ⟨⟩; exact Nat.le_of_ble_eq_true rfl) ?_)
        · as_aux_lemma => kernel_rfl
        rintro ⟨⟩
        refine RUN0 2 [16, 17, 18, 19, 20, 21, 22, 23, 24, 25, 26, 27] [(1, .p 0 0), (3, .v (.func (.func 39) #[] #[])), (23, B (inB q.from' (-1) 9999))] ?_ rfl ?_
        · as_aux_lemma => kernel_rfl
        refine SPLIT (d := 23) (inB q.from' (-1) 9999) ?_ (fun bh4 => ?_) (fun bh4 => ?_)
        · as_aux_lemma => kernel_rfl
        · -- inB q.from' (-1) 9999 = true
          have h4 := bh4
          refine RUN0 3 [19, 20, 21, 22, 23, 24, 25, 26, 27] [(1, .p 0 0), (3, .v (.func (.func 39) #[] #[])), (23, B true), (24, .v (.func (.func 39) #[] #[])), (26, I q.size)] ?_ rfl ?_
          · as_aux_lemma => kernel_rfl
          refine OPC (CALL 39 #[vi q.size] (some 27) ?_ [] [] _ rfl (RV (.bool (usedB q.size))) (fun w hw => iReqOk1_c w q.size) (by rintro _ ⟨⟩; exact Nat.le_of_ble_eq_true rfl) ?_)
          · as_aux_lemma => kernel_rfl
          rintro ⟨⟩
          refine RUN0 2 [22, 23, 24, 25, 26, 27] [(1, .p 0 0), (3, .v (.func (.func 39) #[] #[])), (29, B (usedB q.size))] ?_ rfl ?_
          · as_aux_lemma => kernel_rfl
          refine SPLIT (d := 29) (usedB q.size) ?_ (fun bh5 => ?_) (fun bh5 => ?_)
          · as_aux_lemma => kernel_rfl
          · -- usedB q.size = true
            have h5 := bh5
            refine RUN0 3 [25, 26, 27] [(29, B true), (30, .v (.func (.func 39) #[] #[])), (32, I q.tier)] ?_ rfl ?_
            · as_aux_lemma => kernel_rfl
            refine OPC (CALL 39 #[vi q.tier] (some 33) ?_ [] [] _ rfl (RV (.bool (usedB q.tier))) (fun w hw => iReqOk1_c w q.tier) (by rintro _ ⟨⟩; exact Nat.le_of_ble_eq_true rfl) ?_)
            · as_aux_lemma => kernel_rfl
            rintro ⟨⟩
            refine RUN0 2 [] [(2, B (usedB q.tier))] ?_ rfl ?_
            · as_aux_lemma => kernel_rfl
            refine ENDOPS (NEXT (RET (OUTR (PASS trivial (FIN (.bool (usedB q.tier)) ?_ () ?_ [] ?_)))))
            · as_aux_lemma => kernel_rfl
            · simp [RV, reqOk, reqEq, *]
            · rfl
          · -- usedB q.size = false
            have h5 := bh5
            refine RUN0 6 [] [(2, B false)] ?_ rfl ?_
            · as_aux_lemma => kernel_rfl
            refine ENDOPS (NEXT (RET (OUTR (PASS trivial (FIN (.bool false) ?_ () ?_ [] ?_)))))
            · as_aux_lemma => kernel_rfl
            · simp [RV, reqOk, reqEq, *]
            · rfl
        · -- inB q.from' (-1) 9999 = false
          have h4 := bh4
          refine RUN0 12 [] [(2, B false)] ?_ rfl ?_
          · as_aux_lemma => kernel_rfl
          refine ENDOPS (NEXT (RET (OUTR (PASS trivial (FIN (.bool false) ?_ () ?_ [] ?_)))))
          · as_aux_lemma => kernel_rfl
          · simp [RV, reqOk, reqEq, *]
          · rfl
      · -- usedB q.cabin = false
        have h3 := bh3
        refine RUN0 17 [] [(2, B false)] ?_ rfl ?_
        · as_aux_lemma => kernel_rfl
        refine ENDOPS (NEXT (RET (OUTR (PASS trivial (FIN (.bool false) ?_ () ?_ [] ?_)))))
        · as_aux_lemma => kernel_rfl
        · simp [RV, reqOk, reqEq, *]
        · rfl
    · -- usedB q.id = false
      have h2 := bh2
      refine RUN0 23 [] [(2, B false)] ?_ rfl ?_
      · as_aux_lemma => kernel_rfl
      refine ENDOPS (NEXT (RET (OUTR (PASS trivial (FIN (.bool false) ?_ () ?_ [] ?_)))))
      · as_aux_lemma => kernel_rfl
      · simp [RV, reqOk, reqEq, *]
      · rfl
  · -- q.kind == 1 = false
    have h1 := bh1
    have h1 := ne_of_beq_false h1
    refine SEQ (SEQ (REGION [0, 1] rfl (RUN0 2 [] [(1, .p 0 0), (3, .v (.func (.func 39) #[] #[])), (5, I q.kind), (35, B (q.kind == 2))] ?_ rfl ?_)))
    · as_aux_lemma => kernel_rfl
    refine ENDOPS (NEXT (IF (q.kind == 2) ?_ (fun bh6 => ?_) (fun bh6 => ?_)))
    · as_aux_lemma => kernel_rfl
    · -- q.kind == 2 = true
      have h6 := bh6
      have h6 := eq_of_beq h6
      refine SKIP (NEXT (IF (q.kind == 2) ?_ (fun bh7 => ?_) (fun bh7 => ?_)))
      · as_aux_lemma => kernel_rfl
      · -- q.kind == 2 = true
        have h7 := bh7
        have h7 := eq_of_beq h7
        refine SEQ (REGION [0, 1, 2, 3, 4, 5, 6, 7, 8, 9, 10, 11, 12, 13] rfl (RUN0 3 [3, 4, 5, 6, 7, 8, 9, 10, 11, 12, 13] [(1, .p 0 0), (40, .v (.func (.func 39) #[] #[])), (42, I q.id)] ?_ rfl ?_))
        · as_aux_lemma => kernel_rfl
        refine OPC (CALL 39 #[vi q.id] (some 43) ?_ [] [] _ rfl (RV (.bool (usedB q.id))) (fun w hw => iReqOk1_c w q.id) (by rintro _ ⟨⟩; exact Nat.le_of_ble_eq_true rfl) ?_)
        · as_aux_lemma => kernel_rfl
        rintro ⟨⟩
        refine RUN0 1 [5, 6, 7, 8, 9, 10, 11, 12, 13] [(1, .p 0 0), (44, B (usedB q.id))] ?_ rfl ?_
        · as_aux_lemma => kernel_rfl
        refine SPLIT (d := 44) (usedB q.id) ?_ (fun bh8 => ?_) (fun bh8 => ?_)
        · as_aux_lemma => kernel_rfl
        · -- usedB q.id = true
          have h8 := bh8
          refine RUN0 6 [11, 12, 13] [(44, B true), (45, .v (.agg #[vi q.kind, vi q.id, vi q.cabin, vi q.from', vi q.size, vi q.tier])), (50, .v (.agg #[vi q.kind, vi q.id, vi 0, vi 0, vi 0, vi 0]))] ?_ rfl ?_
          · as_aux_lemma => kernel_rfl
          refine OPC (RUNV (.binOp .eql 41 (.tmp 45) (.tmp 50) 41) 51 4 ?_ (Nat.le_of_ble_eq_true rfl) (.bool ((q.kind == q.kind) && ((q.id == q.id) && ((q.cabin == 0) && ((q.from' == 0) && ((q.size == 0) && ((q.tier == 0) && true))))))) (runs_eql (xs := [vi q.kind, vi q.id, vi q.cabin, vi q.from', vi q.size, vi q.tier]) (ys := [vi q.kind, vi q.id, vi 0, vi 0, vi 0, vi 0]) (r := (q.kind == q.kind) && ((q.id == q.id) && ((q.cabin == 0) && ((q.from' == 0) && ((q.size == 0) && ((q.tier == 0) && true)))))) ?_ ?_ ?_) ?_)
          · as_aux_lemma => kernel_rfl
          · as_aux_lemma => kernel_rfl
          · as_aux_lemma => kernel_rfl
          · as_aux_lemma => kernel_rfl
          refine RUN0 2 [] [(2, B ((q.kind == q.kind) && ((q.id == q.id) && ((q.cabin == 0) && ((q.from' == 0) && ((q.size == 0) && ((q.tier == 0) && true)))))))] ?_ rfl ?_
          · as_aux_lemma => kernel_rfl
          refine ENDOPS (NEXT (RET (OUTR (PASS trivial (FIN (.bool ((q.kind == q.kind) && ((q.id == q.id) && ((q.cabin == 0) && ((q.from' == 0) && ((q.size == 0) && ((q.tier == 0) && true))))))) ?_ () ?_ [] ?_)))))
          · as_aux_lemma => kernel_rfl
          · simp [RV, reqOk, reqEq, *]
          · rfl
        · -- usedB q.id = false
          have h8 := bh8
          refine RUN0 9 [] [(2, B false)] ?_ rfl ?_
          · as_aux_lemma => kernel_rfl
          refine ENDOPS (NEXT (RET (OUTR (PASS trivial (FIN (.bool false) ?_ () ?_ [] ?_)))))
          · as_aux_lemma => kernel_rfl
          · simp [RV, reqOk, reqEq, *]
          · rfl
      · exact Bool.noConfusion (bh6.symm.trans bh7)
    · -- q.kind == 2 = false
      have h6 := bh6
      have h6 := ne_of_beq_false h6
      refine SEQ (REGION [0, 1] rfl (RUN0 2 [] [(1, .p 0 0), (3, .v (.func (.func 39) #[] #[])), (5, I q.kind), (35, B (q.kind == 4))] ?_ rfl ?_))
      · as_aux_lemma => kernel_rfl
      refine ENDOPS (NEXT (IF (q.kind == 4) ?_ (fun bh9 => ?_) (fun bh9 => ?_)))
      · as_aux_lemma => kernel_rfl
      · -- q.kind == 4 = true
        have h9 := bh9
        have h9 := eq_of_beq h9
        refine SKIP (NEXT (IF (q.kind == 4) ?_ (fun bh10 => ?_) (fun bh10 => ?_)))
        · as_aux_lemma => kernel_rfl
        · -- q.kind == 4 = true
          have h10 := bh10
          have h10 := eq_of_beq h10
          refine SEQ (REGION [0, 1, 2, 3, 4, 5, 6, 7, 8, 9, 10, 11, 12, 13] rfl (RUN0 3 [3, 4, 5, 6, 7, 8, 9, 10, 11, 12, 13] [(1, .p 0 0), (40, .v (.func (.func 39) #[] #[])), (42, I q.id)] ?_ rfl ?_))
          · as_aux_lemma => kernel_rfl
          refine OPC (CALL 39 #[vi q.id] (some 43) ?_ [] [] _ rfl (RV (.bool (usedB q.id))) (fun w hw => iReqOk1_c w q.id) (by rintro _ ⟨⟩; exact Nat.le_of_ble_eq_true rfl) ?_)
          · as_aux_lemma => kernel_rfl
          rintro ⟨⟩
          refine RUN0 1 [5, 6, 7, 8, 9, 10, 11, 12, 13] [(1, .p 0 0), (44, B (usedB q.id))] ?_ rfl ?_
          · as_aux_lemma => kernel_rfl
          refine SPLIT (d := 44) (usedB q.id) ?_ (fun bh11 => ?_) (fun bh11 => ?_)
          · as_aux_lemma => kernel_rfl
          · -- usedB q.id = true
            have h11 := bh11
            refine RUN0 6 [11, 12, 13] [(44, B true), (45, .v (.agg #[vi q.kind, vi q.id, vi q.cabin, vi q.from', vi q.size, vi q.tier])), (50, .v (.agg #[vi q.kind, vi q.id, vi 0, vi 0, vi 0, vi 0]))] ?_ rfl ?_
            · as_aux_lemma => kernel_rfl
            refine OPC (RUNV (.binOp .eql 41 (.tmp 45) (.tmp 50) 41) 51 4 ?_ (Nat.le_of_ble_eq_true rfl) (.bool ((q.kind == q.kind) && ((q.id == q.id) && ((q.cabin == 0) && ((q.from' == 0) && ((q.size == 0) && ((q.tier == 0) && true))))))) (runs_eql (xs := [vi q.kind, vi q.id, vi q.cabin, vi q.from', vi q.size, vi q.tier]) (ys := [vi q.kind, vi q.id, vi 0, vi 0, vi 0, vi 0]) (r := (q.kind == q.kind) && ((q.id == q.id) && ((q.cabin == 0) && ((q.from' == 0) && ((q.size == 0) && ((q.tier == 0) && true)))))) ?_ ?_ ?_) ?_)
            · as_aux_lemma => kernel_rfl
            · as_aux_lemma => kernel_rfl
            · as_aux_lemma => kernel_rfl
            · as_aux_lemma => kernel_rfl
            refine RUN0 2 [] [(2, B ((q.kind == q.kind) && ((q.id == q.id) && ((q.cabin == 0) && ((q.from' == 0) && ((q.size == 0) && ((q.tier == 0) && true)))))))] ?_ rfl ?_
            · as_aux_lemma => kernel_rfl
            refine ENDOPS (NEXT (RET (OUTR (PASS trivial (FIN (.bool ((q.kind == q.kind) && ((q.id == q.id) && ((q.cabin == 0) && ((q.from' == 0) && ((q.size == 0) && ((q.tier == 0) && true))))))) ?_ () ?_ [] ?_)))))
            · as_aux_lemma => kernel_rfl
            · simp [RV, reqOk, reqEq, *]
            · rfl
          · -- usedB q.id = false
            have h11 := bh11
            refine RUN0 9 [] [(2, B false)] ?_ rfl ?_
            · as_aux_lemma => kernel_rfl
            refine ENDOPS (NEXT (RET (OUTR (PASS trivial (FIN (.bool false) ?_ () ?_ [] ?_)))))
            · as_aux_lemma => kernel_rfl
            · simp [RV, reqOk, reqEq, *]
            · rfl
        · exact Bool.noConfusion (bh9.symm.trans bh10)
      · -- q.kind == 4 = false
        have h9 := bh9
        have h9 := ne_of_beq_false h9
        refine SEQ (REGION [0, 1] rfl (RUN0 2 [] [(1, .p 0 0), (3, .v (.func (.func 39) #[] #[])), (5, I q.kind), (35, B (q.kind == 5))] ?_ rfl ?_))
        · as_aux_lemma => kernel_rfl
        refine ENDOPS (NEXT (IF (q.kind == 5) ?_ (fun bh12 => ?_) (fun bh12 => ?_)))
        · as_aux_lemma => kernel_rfl
        · -- q.kind == 5 = true
          have h12 := bh12
          have h12 := eq_of_beq h12
          refine SKIP (NEXT (IF (q.kind == 5) ?_ (fun bh13 => ?_) (fun bh13 => ?_)))
          · as_aux_lemma => kernel_rfl
          · -- q.kind == 5 = true
            have h13 := bh13
            have h13 := eq_of_beq h13
            refine SEQ (REGION [0, 1, 2, 3, 4, 5, 6, 7, 8, 9, 10, 11, 12, 13] rfl (RUN0 3 [3, 4, 5, 6, 7, 8, 9, 10, 11, 12, 13] [(1, .p 0 0), (40, .v (.func (.func 39) #[] #[])), (42, I q.id)] ?_ rfl ?_))
            · as_aux_lemma => kernel_rfl
            refine OPC (CALL 39 #[vi q.id] (some 43) ?_ [] [] _ rfl (RV (.bool (usedB q.id))) (fun w hw => iReqOk1_c w q.id) (by rintro _ ⟨⟩; exact Nat.le_of_ble_eq_true rfl) ?_)
            · as_aux_lemma => kernel_rfl
            rintro ⟨⟩
            refine RUN0 1 [5, 6, 7, 8, 9, 10, 11, 12, 13] [(1, .p 0 0), (44, B (usedB q.id))] ?_ rfl ?_
            · as_aux_lemma => kernel_rfl
            refine SPLIT (d := 44) (usedB q.id) ?_ (fun bh14 => ?_) (fun bh14 => ?_)
            · as_aux_lemma => kernel_rfl
            · -- usedB q.id = true
              have h14 := bh14
              refine RUN0 6 [11, 12, 13] [(44, B true), (45, .v (.agg #[vi q.kind, vi q.id, vi q.cabin, vi q.from', vi q.size, vi q.tier])), (50, .v (.agg #[vi q.kind, vi q.id, vi 0, vi 0, vi 0, vi 0]))] ?_ rfl ?_
              · as_aux_lemma => kernel_rfl
              refine OPC (RUNV (.binOp .eql 41 (.tmp 45) (.tmp 50) 41) 51 4 ?_ (Nat.le_of_ble_eq_true rfl) (.bool ((q.kind == q.kind) && ((q.id == q.id) && ((q.cabin == 0) && ((q.from' == 0) && ((q.size == 0) && ((q.tier == 0) && true))))))) (runs_eql (xs := [vi q.kind, vi q.id, vi q.cabin, vi q.from', vi q.size, vi q.tier]) (ys := [vi q.kind, vi q.id, vi 0, vi 0, vi 0, vi 0]) (r := (q.kind == q.kind) && ((q.id == q.id) && ((q.cabin == 0) && ((q.from' == 0) && ((q.size == 0) && ((q.tier == 0) && true)))))) ?_ ?_ ?_) ?_)
              · as_aux_lemma => kernel_rfl
              · as_aux_lemma => kernel_rfl
              · as_aux_lemma => kernel_rfl
              · as_aux_lemma => kernel_rfl
              refine RUN0 2 [] [(2, B ((q.kind == q.kind) && ((q.id == q.id) && ((q.cabin == 0) && ((q.from' == 0) && ((q.size == 0) && ((q.tier == 0) && true)))))))] ?_ rfl ?_
              · as_aux_lemma => kernel_rfl
              refine ENDOPS (NEXT (RET (OUTR (PASS trivial (FIN (.bool ((q.kind == q.kind) && ((q.id == q.id) && ((q.cabin == 0) && ((q.from' == 0) && ((q.size == 0) && ((q.tier == 0) && true))))))) ?_ () ?_ [] ?_)))))
              · as_aux_lemma => kernel_rfl
              · simp [RV, reqOk, reqEq, *]
              · rfl
            · -- usedB q.id = false
              have h14 := bh14
              refine RUN0 9 [] [(2, B false)] ?_ rfl ?_
              · as_aux_lemma => kernel_rfl
              refine ENDOPS (NEXT (RET (OUTR (PASS trivial (FIN (.bool false) ?_ () ?_ [] ?_)))))
              · as_aux_lemma => kernel_rfl
              · simp [RV, reqOk, reqEq, *]
              · rfl
          · exact Bool.noConfusion (bh12.symm.trans bh13)
        · -- q.kind == 5 = false
          have h12 := bh12
          have h12 := ne_of_beq_false h12
          refine REGION [0, 1] rfl (RUN0 2 [] [(1, .p 0 0), (3, .v (.func (.func 39) #[] #[])), (5, I q.kind), (35, B (q.kind == 7))] ?_ rfl ?_)
          · as_aux_lemma => kernel_rfl
          refine ENDOPS (NEXT (IF (q.kind == 7) ?_ (fun bh15 => ?_) (fun bh15 => ?_)))
          · as_aux_lemma => kernel_rfl
          · -- q.kind == 7 = true
            have h15 := bh15
            have h15 := eq_of_beq h15
            refine SEQ (REGION [0, 1, 2, 3, 4, 5, 6, 7, 8, 9, 10, 11, 12, 13] rfl (RUN0 3 [3, 4, 5, 6, 7, 8, 9, 10, 11, 12, 13] [(1, .p 0 0), (40, .v (.func (.func 39) #[] #[])), (42, I q.id)] ?_ rfl ?_))
            · as_aux_lemma => kernel_rfl
            refine OPC (CALL 39 #[vi q.id] (some 43) ?_ [] [] _ rfl (RV (.bool (usedB q.id))) (fun w hw => iReqOk1_c w q.id) (by rintro _ ⟨⟩; exact Nat.le_of_ble_eq_true rfl) ?_)
            · as_aux_lemma => kernel_rfl
            rintro ⟨⟩
            refine RUN0 1 [5, 6, 7, 8, 9, 10, 11, 12, 13] [(1, .p 0 0), (44, B (usedB q.id))] ?_ rfl ?_
            · as_aux_lemma => kernel_rfl
            refine SPLIT (d := 44) (usedB q.id) ?_ (fun bh16 => ?_) (fun bh16 => ?_)
            · as_aux_lemma => kernel_rfl
            · -- usedB q.id = true
              have h16 := bh16
              refine RUN0 6 [11, 12, 13] [(44, B true), (45, .v (.agg #[vi q.kind, vi q.id, vi q.cabin, vi q.from', vi q.size, vi q.tier])), (50, .v (.agg #[vi q.kind, vi q.id, vi 0, vi 0, vi 0, vi 0]))] ?_ rfl ?_
              · as_aux_lemma => kernel_rfl
              refine OPC (RUNV (.binOp .eql 41 (.tmp 45) (.tmp 50) 41) 51 4 ?_ (Nat.le_of_ble_eq_true rfl) (.bool ((q.kind == q.kind) && ((q.id == q.id) && ((q.cabin == 0) && ((q.from' == 0) && ((q.size == 0) && ((q.tier == 0) && true))))))) (runs_eql (xs := [vi q.kind, vi q.id, vi q.cabin, vi q.from', vi q.size, vi q.tier]) (ys := [vi q.kind, vi q.id, vi 0, vi 0, vi 0, vi 0]) (r := (q.kind == q.kind) && ((q.id == q.id) && ((q.cabin == 0) && ((q.from' == 0) && ((q.size == 0) && ((q.tier == 0) && true)))))) ?_ ?_ ?_) ?_)
              · as_aux_lemma => kernel_rfl
              · as_aux_lemma => kernel_rfl
              · as_aux_lemma => kernel_rfl
              · as_aux_lemma => kernel_rfl
              refine RUN0 2 [] [(2, B ((q.kind == q.kind) && ((q.id == q.id) && ((q.cabin == 0) && ((q.from' == 0) && ((q.size == 0) && ((q.tier == 0) && true)))))))] ?_ rfl ?_
              · as_aux_lemma => kernel_rfl
              refine ENDOPS (NEXT (RET (OUTR (PASS trivial (FIN (.bool ((q.kind == q.kind) && ((q.id == q.id) && ((q.cabin == 0) && ((q.from' == 0) && ((q.size == 0) && ((q.tier == 0) && true))))))) ?_ () ?_ [] ?_)))))
              · as_aux_lemma => kernel_rfl
              · simp [RV, reqOk, reqEq, *]
              · rfl
            · -- usedB q.id = false
              have h16 := bh16
              refine RUN0 9 [] [(2, B false)] ?_ rfl ?_
              · as_aux_lemma => kernel_rfl
              refine ENDOPS (NEXT (RET (OUTR (PASS trivial (FIN (.bool false) ?_ () ?_ [] ?_)))))
              · as_aux_lemma => kernel_rfl
              · simp [RV, reqOk, reqEq, *]
              · rfl
          · -- q.kind == 7 = false
            have h15 := bh15
            have h15 := ne_of_beq_false h15
            refine SEQ (REGION [0, 1] rfl (RUN0 2 [] [(1, .p 0 0), (3, .v (.func (.func 39) #[] #[])), (5, I q.kind), (53, B (q.kind == 3))] ?_ rfl ?_))
            · as_aux_lemma => kernel_rfl
            refine ENDOPS (NEXT (IF (q.kind == 3) ?_ (fun bh17 => ?_) (fun bh17 => ?_)))
            · as_aux_lemma => kernel_rfl
            · -- q.kind == 3 = true
              have h17 := bh17
              have h17 := eq_of_beq h17
              refine SEQ (REGION [0, 1, 2, 3, 4, 5, 6, 7, 8, 9, 10, 11, 12, 13, 14, 15, 16, 17, 18, 19, 20, 21] rfl (RUN0 3 [3, 4, 5, 6, 7, 8, 9, 10, 11, 12, 13, 14, 15, 16, 17, 18, 19, 20, 21] [(1, .p 0 0), (3, .v (.func (.func 39) #[] #[])), (55, .v (.func (.func 39) #[] #[])), (57, I q.cabin)] ?_ rfl ?_))
              · as_aux_lemma => kernel_rfl
              refine OPC (CALL 39 #[vi q.cabin] (some 58) ?_ [] [] _ rfl (RV (.bool (usedB q.cabin))) (fun w hw => iReqOk1_c w q.cabin) (by rintro _ ⟨⟩; exact Nat.le_of_ble_eq_true rfl) ?_)
              · as_aux_lemma => kernel_rfl
              rintro ⟨⟩
              refine RUN0 1 [5, 6, 7, 8, 9, 10, 11, 12, 13, 14, 15, 16, 17, 18, 19, 20, 21] [(1, .p 0 0), (3, .v (.func (.func 39) #[] #[])), (59, B (usedB q.cabin))] ?_ rfl ?_
              · as_aux_lemma => kernel_rfl
              refine SPLIT (d := 59) (usedB q.cabin) ?_ (fun bh18 => ?_) (fun bh18 => ?_)
              · as_aux_lemma => kernel_rfl
              · -- usedB q.cabin = true
                have h18 := bh18
                refine RUN0 3 [8, 9, 10, 11, 12, 13, 14, 15, 16, 17, 18, 19, 20, 21] [(1, .p 0 0), (59, B true), (60, .v (.func (.func 39) #[] #[])), (62, I q.size)] ?_ rfl ?_
                · as_aux_lemma => kernel_rfl
                refine OPC (CALL 39 #[vi q.size] (some 63) ?_ [] [] _ rfl (RV (.bool (usedB q.size))) (fun w hw => iReqOk1_c w q.size) (by rintro _ ⟨⟩; exact Nat.le_of_ble_eq_true rfl) ?_)
                · as_aux_lemma => kernel_rfl
                rintro ⟨⟩
                refine RUN0 2 [11, 12, 13, 14, 15, 16, 17, 18, 19, 20, 21] [(1, .p 0 0), (65, B (usedB q.size))] ?_ rfl ?_
                · as_aux_lemma => kernel_rfl
                refine SPLIT (d := 65) (usedB q.size) ?_ (fun bh19 => ?_) (fun bh19 => ?_)
                · as_aux_lemma => kernel_rfl
                · -- usedB q.size = true
                  have h19 := bh19
                  refine RUN0 8 [19, 20, 21] [(65, B true), (66, .v (.agg #[vi q.kind, vi q.id, vi q.cabin, vi q.from', vi q.size, vi q.tier])), (73, .v (.agg #[vi q.kind, vi 0, vi q.cabin, vi 0, vi q.size, vi 0]))] ?_ rfl ?_
                  · as_aux_lemma => kernel_rfl
                  refine OPC (RUNV (.binOp .eql 41 (.tmp 66) (.tmp 73) 41) 74 4 ?_ (Nat.le_of_ble_eq_true rfl) (.bool ((q.kind == q.kind) && ((q.id == 0) && ((q.cabin == q.cabin) && ((q.from' == 0) && ((q.size == q.size) && ((q.tier == 0) && true))))))) (runs_eql (xs := [vi q.kind, vi q.id, vi q.cabin, vi q.from', vi q.size, vi q.tier]) (ys := [vi q.kind, vi 0, vi q.cabin, vi 0, vi q.size, vi 0]) (r := (q.kind == q.kind) && ((q.id == 0) && ((q.cabin == q.cabin) && ((q.from' == 0) && ((q.size == q.size) && ((q.tier == 0) && true)))))) ?_ ?_ ?_) ?_)
                  · as_aux_lemma => kernel_rfl
                  · as_aux_lemma => kernel_rfl
                  · as_aux_lemma => kernel_rfl
                  · as_aux_lemma => kernel_rfl
                  refine RUN0 2 [] [(2, B ((q.kind == q.kind) && ((q.id == 0) && ((q.cabin == q.cabin) && ((q.from' == 0) && ((q.size == q.size) && ((q.tier == 0) && true)))))))] ?_ rfl ?_
                  · as_aux_lemma => kernel_rfl
                  refine ENDOPS (NEXT (RET (OUTR (PASS trivial (FIN (.bool ((q.kind == q.kind) && ((q.id == 0) && ((q.cabin == q.cabin) && ((q.from' == 0) && ((q.size == q.size) && ((q.tier == 0) && true))))))) ?_ () ?_ [] ?_)))))
                  · as_aux_lemma => kernel_rfl
                  · simp [RV, reqOk, reqEq, *]
                  · rfl
                · -- usedB q.size = false
                  have h19 := bh19
                  refine RUN0 11 [] [(2, B false)] ?_ rfl ?_
                  · as_aux_lemma => kernel_rfl
                  refine ENDOPS (NEXT (RET (OUTR (PASS trivial (FIN (.bool false) ?_ () ?_ [] ?_)))))
                  · as_aux_lemma => kernel_rfl
                  · simp [RV, reqOk, reqEq, *]
                  · rfl
              · -- usedB q.cabin = false
                have h18 := bh18
                refine RUN0 17 [] [(2, B false)] ?_ rfl ?_
                · as_aux_lemma => kernel_rfl
                refine ENDOPS (NEXT (RET (OUTR (PASS trivial (FIN (.bool false) ?_ () ?_ [] ?_)))))
                · as_aux_lemma => kernel_rfl
                · simp [RV, reqOk, reqEq, *]
                · rfl
            · -- q.kind == 3 = false
              have h17 := bh17
              have h17 := ne_of_beq_false h17
              refine SEQ (REGION [0, 1] rfl (RUN0 2 [] [(1, .p 0 0), (76, B (q.kind == 6))] ?_ rfl ?_))
              · as_aux_lemma => kernel_rfl
              refine ENDOPS (NEXT (IF (q.kind == 6) ?_ (fun bh20 => ?_) (fun bh20 => ?_)))
              · as_aux_lemma => kernel_rfl
              · -- q.kind == 6 = true
                have h20 := bh20
                have h20 := eq_of_beq h20
                refine SEQ (REGION [0, 1, 2, 3] rfl (RUN0 2 [2, 3] [(78, .v (.agg #[vi q.kind, vi q.id, vi q.cabin, vi q.from', vi q.size, vi q.tier])), (79, .v (.agg #[vi 6, vi 0, vi 0, vi 0, vi 0, vi 0]))] ?_ rfl ?_))
                · as_aux_lemma => kernel_rfl
                refine OPC (RUNV (.binOp .eql 41 (.tmp 78) (.tmp 79) 41) 80 4 ?_ (Nat.le_of_ble_eq_true rfl) (.bool ((q.kind == 6) && ((q.id == 0) && ((q.cabin == 0) && ((q.from' == 0) && ((q.size == 0) && ((q.tier == 0) && true))))))) (runs_eql (xs := [vi q.kind, vi q.id, vi q.cabin, vi q.from', vi q.size, vi q.tier]) (ys := [vi 6, vi 0, vi 0, vi 0, vi 0, vi 0]) (r := (q.kind == 6) && ((q.id == 0) && ((q.cabin == 0) && ((q.from' == 0) && ((q.size == 0) && ((q.tier == 0) && true)))))) ?_ ?_ ?_) ?_)
                · as_aux_lemma => kernel_rfl
                · as_aux_lemma => kernel_rfl
                · as_aux_lemma => kernel_rfl
                · as_aux_lemma => kernel_rfl
                refine RUN0 1 [] [(2, B ((q.kind == 6) && ((q.id == 0) && ((q.cabin == 0) && ((q.from' == 0) && ((q.size == 0) && ((q.tier == 0) && true)))))))] ?_ rfl ?_
                · as_aux_lemma => kernel_rfl
                refine ENDOPS (NEXT (RET (OUTR (PASS trivial (FIN (.bool ((q.kind == 6) && ((q.id == 0) && ((q.cabin == 0) && ((q.from' == 0) && ((q.size == 0) && ((q.tier == 0) && true))))))) ?_ () ?_ [] ?_)))))
                · as_aux_lemma => kernel_rfl
                · simp [RV, reqOk, reqEq, *]
                · rfl
              · -- q.kind == 6 = false
                have h20 := bh20
                have h20 := ne_of_beq_false h20
                refine SKIP (OUTN (NEXT (SEQ (REGION [0] rfl (RUN0 1 [] [(2, B false)] ?_ rfl ?_)))))
                · as_aux_lemma => kernel_rfl
                refine ENDOPS (NEXT (RET (FIN (.bool false) ?_ () ?_ [] ?_)))
                · as_aux_lemma => kernel_rfl
                · simp [RV, reqOk, reqEq, *]
                · rfl

theorem eqReq_c (W : World) (a : Req) (b : Req) : Spec Try.prog W [] 36 #[.agg #[vi a.kind, vi a.id, vi a.cabin, vi a.from', vi a.size, vi a.tier], .agg #[vi b.kind, vi b.id, vi b.cabin, vi b.from', vi b.size, vi b.tier]] (RV (.bool (eqReq a b))) := by
  refine ENTER0 (N := 35) (vs := [.agg #[vi a.kind, vi a.id, vi a.cabin, vi a.from', vi a.size, vi a.tier], .agg #[vi b.kind, vi b.id, vi b.cabin, vi b.from', vi b.size, vi b.tier]]) Try.func36 rfl rfl (Nat.le_of_ble_eq_true rfl) ?_
  refine SEQ (REGION [0, 1, 2] rfl (RUN 3 [] [(2, .p 0 0), (3, .p 1 0)] [(41, [vi a.kind, vi a.id, vi a.cabin, vi a.from', vi a.size, vi a.tier]), (41, [vi b.kind, vi b.id, vi b.cabin, vi b.from', vi b.size, vi b.tier])] ?_ rfl ?_))
  · as_aux_lemma => kernel_rfl
  refine ENDOPS (NEXT (SEQ (SEQ (REGION [0, 1, 2, 3, 4] rfl (RUN0 5 [] [(2, .p 0 0), (3, .p 1 0), (9, B (a.kind != b.kind))] ?_ rfl ?_)))))
  · as_aux_lemma => kernel_rfl
  refine ENDOPS (NEXT (IF (a.kind != b.kind) ?_ (fun bh1 => ?_) (fun bh1 => ?_)))
  · as_aux_lemma => kernel_rfl
  · -- a.kind != b.kind = true
    have h1 := bh1
    have h1 := bne_iff_ne.1 h1
    refine SEQ (REGION [0] rfl (RUN0 1 [] [(4, B false)] ?_ rfl ?_))
    · as_aux_lemma => kernel_rfl
    refine ENDOPS (NEXT (RET (PASS trivial (FIN (.bool false) ?_ () ?_ [] ?_))))
    · as_aux_lemma => kernel_rfl
    · simp [RV, eqReq, *]
    · rfl
  · -- a.kind != b.kind = false
    have h1 := bh1
    have h1 := bneF h1
    refine SKIP (NEXT (SEQ (SEQ (REGION [0, 1, 2, 3, 4] rfl (RUN0 5 [] [(2, .p 0 0), (3, .p 1 0), (14, B (a.id != b.id))] ?_ rfl ?_)))))
    · as_aux_lemma => kernel_rfl
    refine ENDOPS (NEXT (IF (a.id != b.id) ?_ (fun bh2 => ?_) (fun bh2 => ?_)))
    · as_aux_lemma => kernel_rfl
    · -- a.id != b.id = true
      have h2 := bh2
      have h2 := bne_iff_ne.1 h2
      refine SEQ (REGION [0] rfl (RUN0 1 [] [(4, B false)] ?_ rfl ?_))
      · as_aux_lemma => kernel_rfl
      refine ENDOPS (NEXT (RET (PASS trivial (FIN (.bool false) ?_ () ?_ [] ?_))))
      · as_aux_lemma => kernel_rfl
      · simp [RV, eqReq, *]
      · rfl
    · -- a.id != b.id = false
      have h2 := bh2
      have h2 := bneF h2
      refine SKIP (NEXT (SEQ (SEQ (REGION [0, 1, 2, 3, 4] rfl (RUN0 5 [] [(2, .p 0 0), (3, .p 1 0), (19, B (a.cabin != b.cabin))] ?_ rfl ?_)))))
      · as_aux_lemma => kernel_rfl
      refine ENDOPS (NEXT (IF (a.cabin != b.cabin) ?_ (fun bh3 => ?_) (fun bh3 => ?_)))
      · as_aux_lemma => kernel_rfl
      · -- a.cabin != b.cabin = true
        have h3 := bh3
        have h3 := bne_iff_ne.1 h3
        refine SEQ (REGION [0] rfl (RUN0 1 [] [(4, B false)] ?_ rfl ?_))
        · as_aux_lemma => kernel_rfl
        refine ENDOPS (NEXT (RET (PASS trivial (FIN (.bool false) ?_ () ?_ [] ?_))))
        · as_aux_lemma => kernel_rfl
        · simp [RV, eqReq, *]
        · rfl
      · -- a.cabin != b.cabin = false
        have h3 := bh3
        have h3 := bneF h3
        refine SKIP (NEXT (SEQ (SEQ (REGION [0, 1, 2, 3, 4] rfl (RUN0 5 [] [(2, .p 0 0), (3, .p 1 0), (24, B (a.from' != b.from'))] ?_ rfl ?_)))))
        · as_aux_lemma => kernel_rfl
        refine ENDOPS (NEXT (IF (a.from' != b.from') ?_ (fun bh4 => ?_) (fun bh4 => ?_)))
        · as_aux_lemma => kernel_rfl
        · -- a.from' != b.from' = true
          have h4 := bh4
          have h4 := bne_iff_ne.1 h4
          refine SEQ (REGION [0] rfl (RUN0 1 [] [(4, B false)] ?_ rfl ?_))
          · as_aux_lemma => kernel_rfl
          refine ENDOPS (NEXT (RET (PASS trivial (FIN (.bool false) ?_ () ?_ [] ?_))))
          · as_aux_lemma => kernel_rfl
          · simp [RV, eqReq, *]
          · rfl
        · -- a.from' != b.from' = false
          have h4 := bh4
          have h4 := bneF h4
          refine SKIP (NEXT (SEQ (SEQ (REGION [0, 1, 2, 3, 4] rfl (RUN0 5 [] [(2, .p 0 0), (3, .p 1 0), (29, B (a.size != b.size))] ?_ rfl ?_)))))
          · as_aux_lemma => kernel_rfl
          refine ENDOPS (NEXT (IF (a.size != b.size) ?_ (fun bh5 => ?_) (fun bh5 => ?_)))
          · as_aux_lemma => kernel_rfl
          · -- a.size != b.size = true
            have h5 := bh5
            have h5 := bne_iff_ne.1 h5
            refine SEQ (REGION [0] rfl (RUN0 1 [] [(4, B false)] ?_ rfl ?_))
            · as_aux_lemma => kernel_rfl
            refine ENDOPS (NEXT (RET (PASS trivial (FIN (.bool false) ?_ () ?_ [] ?_))))
            · as_aux_lemma => kernel_rfl
            · simp [RV, eqReq, *]
            · rfl
          · -- a.size != b.size = false
            have h5 := bh5
            have h5 := bneF h5
            refine SKIP (NEXT (SEQ (SEQ (REGION [0, 1, 2, 3, 4] rfl (RUN0 5 [] [(34, B (a.tier != b.tier))] ?_ rfl ?_)))))
            · as_aux_lemma => kernel_rfl
            refine ENDOPS (NEXT (IF (a.tier != b.tier) ?_ (fun bh6 => ?_) (fun bh6 => ?_)))
            · as_aux_lemma => kernel_rfl
            · -- a.tier != b.tier = true
              have h6 := bh6
              have h6 := bne_iff_ne.1 h6
              refine SEQ (REGION [0] rfl (RUN0 1 [] [(4, B false)] ?_ rfl ?_))
              · as_aux_lemma => kernel_rfl
              refine ENDOPS (NEXT (RET (PASS trivial (FIN (.bool false) ?_ () ?_ [] ?_))))
              · as_aux_lemma => kernel_rfl
              · simp [RV, eqReq, *]
              · rfl
            · -- a.tier != b.tier = false
              have h6 := bh6
              have h6 := bneF h6
              refine SKIP (NEXT (SEQ (REGION [0] rfl (RUN0 1 [] [(4, B true)] ?_ rfl ?_))))
              · as_aux_lemma => kernel_rfl
              refine ENDOPS (NEXT (RET (FIN (.bool true) ?_ () ?_ [] ?_)))
              · as_aux_lemma => kernel_rfl
              · simp [RV, eqReq, *]
              · rfl

theorem toReq_c (W : World) (a : Req) : Spec Try.prog W [] 23 #[.agg #[vi a.kind, vi a.id, vi a.cabin, vi a.from', vi a.size, vi a.tier]] (RV (.agg #[vi a.kind, vi a.id, vi a.cabin, vi a.from', vi a.size, vi a.tier])) := by
  refine ENTER0 (N := 23) (vs := [.agg #[vi a.kind, vi a.id, vi a.cabin, vi a.from', vi a.size, vi a.tier]]) Try.func23 rfl rfl (Nat.le_of_ble_eq_true rfl) ?_
  refine SEQ (REGION [0, 1] rfl (RUN 2 [] [(1, .p 0 0), (2, .p 1 0)] [(36, [vi a.kind, vi a.id, vi a.cabin, vi a.from', vi a.size, vi a.tier]), (41, [vi 0, vi 0, vi 0, vi 0, vi 0, vi 0])] ?_ rfl ?_))
  · as_aux_lemma => kernel_rfl
  refine ENDOPS (NEXT (SEQ (REGION [0] rfl (RUN 1 [] [(1, .p 0 0), (2, .p 1 0), (3, .p 2 0)] [(36, [vi a.kind, vi a.id, vi a.cabin, vi a.from', vi a.size, vi a.tier]), (41, [vi 0, vi 0, vi 0, vi 0, vi 0, vi 0]), (41, [vi 0, vi 0, vi 0, vi 0, vi 0, vi 0])] ?_ rfl ?_))))
  · as_aux_lemma => kernel_rfl
  refine ENDOPS (NEXT (SEQ (REGION [0, 1, 2, 3] rfl (RUN 4 [] [(1, .p 0 0), (2, .p 1 0), (3, .p 2 0)] [(36, [vi a.kind, vi a.id, vi a.cabin, vi a.from', vi a.size, vi a.tier]), (41, [vi 0, vi 0, vi 0, vi 0, vi 0, vi 0]), (41, [vi a.kind, vi 0, vi 0, vi 0, vi 0, vi 0])] ?_ rfl ?_))))
  · as_aux_lemma => kernel_rfl
  refine ENDOPS (NEXT (SEQ (REGION [0, 1, 2, 3] rfl (RUN 4 [] [(1, .p 0 0), (2, .p 1 0), (3, .p 2 0)] [(36, [vi a.kind, vi a.id, vi a.cabin, vi a.from', vi a.size, vi a.tier]), (41, [vi 0, vi 0, vi 0, vi 0, vi 0, vi 0]), (41, [vi a.kind, vi a.id, vi 0, vi 0, vi 0, vi 0])] ?_ rfl ?_))))
  · as_aux_lemma => kernel_rfl
  refine ENDOPS (NEXT (SEQ (REGION [0, 1, 2, 3] rfl (RUN 4 [] [(1, .p 0 0), (2, .p 1 0), (3, .p 2 0)] [(36, [vi a.kind, vi a.id, vi a.cabin, vi a.from', vi a.size, vi a.tier]), (41, [vi 0, vi 0, vi 0, vi 0, vi 0, vi 0]), (41, [vi a.kind, vi a.id, vi a.cabin, vi 0, vi 0, vi 0])] ?_ rfl ?_))))
  · as_aux_lemma => kernel_rfl
  refine ENDOPS (NEXT (SEQ (REGION [0, 1, 2, 3] rfl (RUN 4 [] [(1, .p 0 0), (2, .p 1 0), (3, .p 2 0)] [(36, [vi a.kind, vi a.id, vi a.cabin, vi a.from', vi a.size, vi a.tier]), (41, [vi 0, vi 0, vi 0, vi 0, vi 0, vi 0]), (41, [vi a.kind, vi a.id, vi a.cabin, vi a.from', vi 0, vi 0])] ?_ rfl ?_))))
  · as_aux_lemma => kernel_rfl
  refine ENDOPS (NEXT (SEQ (REGION [0, 1, 2, 3] rfl (RUN 4 [] [(1, .p 0 0), (2, .p 1 0), (3, .p 2 0)] [(36, [vi a.kind, vi a.id, vi a.cabin, vi a.from', vi a.size, vi a.tier]), (41, [vi 0, vi 0, vi 0, vi 0, vi 0, vi 0]), (41, [vi a.kind, vi a.id, vi a.cabin, vi a.from', vi a.size, vi 0])] ?_ rfl ?_))))
  · as_aux_lemma => kernel_rfl
  refine ENDOPS (NEXT (SEQ (REGION [0, 1, 2, 3] rfl (RUN 4 [] [(2, .p 1 0), (3, .p 2 0)] [(36, [vi a.kind, vi a.id, vi a.cabin, vi a.from', vi a.size, vi a.tier]), (41, [vi 0, vi 0, vi 0, vi 0, vi 0, vi 0]), (41, [vi a.kind, vi a.id, vi a.cabin, vi a.from', vi a.size, vi a.tier])] ?_ rfl ?_))))
  · as_aux_lemma => kernel_rfl
  refine ENDOPS (NEXT (SEQ (REGION [0, 1] rfl (RUN 2 [] [(2, .p 1 0)] [(36, [vi a.kind, vi a.id, vi a.cabin, vi a.from', vi a.size, vi a.tier]), (41, [vi a.kind, vi a.id, vi a.cabin, vi a.from', vi a.size, vi a.tier]), (41, [vi a.kind, vi a.id, vi a.cabin, vi a.from', vi a.size, vi a.tier])] ?_ rfl ?_))))
  · as_aux_lemma => kernel_rfl
  refine ENDOPS (NEXT (RET (FIN (.agg #[vi a.kind, vi a.id, vi a.cabin, vi a.from', vi a.size, vi a.tier]) ?_ () ?_ [] ?_)))
  · as_aux_lemma => kernel_rfl
  · rfl
  · rfl

end SX
end Go.Proofs.Ytcjaeedkhlnegaa
