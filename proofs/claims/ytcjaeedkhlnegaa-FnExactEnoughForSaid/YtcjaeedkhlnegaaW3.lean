/- Walks, printed by program. -/
import Derived.Test.YtcjaeedkhlnegaaW2
import Derived.Test.YtcjaeedkhlnegaaSx8
namespace Go.Proofs.Ytcjaeedkhlnegaa
namespace SX
open Go Go.RowKit
set_option linter.unusedVariables false
set_option linter.unusedSimpArgs false
set_option maxRecDepth 10000
theorem exEnoughFor_c (W : World) (aR : Rules) (aR_seats_a : Option Addr) (aR_seats_c : Nat) (haR_seats : Rd intL W aR_seats_a aR.seats) (aTier : Int) : Spec Try.prog W [] 4 #[.agg #[.slice aR_seats_a aR.seats.length aR_seats_c, vi aR.tiers, vi aR.room, vi aR.size, vi aR.period, vi aR.window, vi aR.rest, vi aR.tries, vi aR.crew], vi aTier] (RV (.bool true)) := by
  refine ENTER0 (N := 31) (vs := [.agg #[.slice aR_seats_a aR.seats.length aR_seats_c, vi aR.tiers, vi aR.room, vi aR.size, vi aR.period, vi aR.window, vi aR.rest, vi aR.tries, vi aR.crew], vi aTier]) Try.func4 rfl rfl (Nat.le_of_ble_eq_true rfl) ?_
  have haR_seats_len := haR_seats.len
  refine SEQ (REGION [0, 1] rfl (RUN 2 [] [(1, I aTier), (2, .p 0 0)] [(26, [.slice aR_seats_a aR.seats.length aR_seats_c, vi aR.tiers, vi aR.room, vi aR.size, vi aR.period, vi aR.window, vi aR.rest, vi aR.tries, vi aR.crew])] ?_ rfl ?_))
  · as_aux_lemma => kernel_rfl
  refine ENDOPS (NEXT (SEQ (REGION [0] rfl (RUN0 1 [] [(1, I aTier), (2, .p 0 0), (5, I 1048576)] ?_ rfl ?_))))
  · as_aux_lemma => kernel_rfl
  refine ENDOPS (NEXT (SEQ (REGION [0, 1, 2, 3] rfl (RUN0 2 [2, 3] [(1, I aTier), (2, .p 0 0), (9, .v (.agg #[.slice aR_seats_a aR.seats.length aR_seats_c, vi aR.tiers, vi aR.room, vi aR.size, vi aR.period, vi aR.window, vi aR.rest, vi aR.tries, vi aR.crew])), (10, I 1048576)] ?_ rfl ?_))))
  · as_aux_lemma => kernel_rfl
  refine OPC (CALL 10 #[.agg #[.slice aR_seats_a aR.seats.length aR_seats_c, vi aR.tiers, vi aR.room, vi aR.size, vi aR.period, vi aR.window, vi aR.rest, vi aR.tries, vi aR.crew], vi 1048576] (some 11) ?_ [] [] _ rfl (RV (vi (szRules aR 1048576))) (fun w hw => szRules_c w aR aR_seats_a aR_seats_c (haR_seats.fr hw.fr) 1048576) (by rintro _ ⟨⟩; exact Nat.le_of_ble_eq_true rfl) ?_)
  · as_aux_lemma => kernel_rfl
  rintro ⟨⟩
  refine RUN0 1 [] [(1, I aTier), (2, .p 0 0), (5, I (szRules aR 1048576))] ?_ rfl ?_
  · as_aux_lemma => kernel_rfl
  refine ENDOPS (NEXT (SEQ (SEQ (REGION [0, 1] rfl (RUN0 2 [] [(1, I aTier), (2, .p 0 0), (13, B (decide ((szRules aR 1048576) < 0)))] ?_ rfl ?_)))))
  · as_aux_lemma => kernel_rfl
  refine ENDOPS (NEXT (IF (decide ((szRules aR 1048576) < 0)) ?_ (fun h1 => ?_) (fun h1 => ?_)))
  · as_aux_lemma => kernel_rfl
  · -- decide ((szRules aR 1048576) < 0) = true
    have h1 := of_decide_eq_true h1
    refine SEQ (REGION [0] rfl (RUN0 1 [] [(4, B true)] ?_ rfl ?_))
    · as_aux_lemma => kernel_rfl
    refine ENDOPS (NEXT (RET (PASS trivial (FIN (.bool true) ?_ () ?_ [] ?_))))
    · as_aux_lemma => kernel_rfl
    · simp_all [RV, eqRules_refl]
    · rfl
  · -- decide ((szRules aR 1048576) < 0) = false
    have h1 := of_decide_eq_false h1
    have hb := szRules_len haR_seats_len h1
    refine SKIP (NEXT (SEQ (REGION [0, 1, 2, 3, 4] rfl (RUN0 1 [1, 2, 3, 4] [(1, I aTier), (2, .p 0 0), (14, .v (.agg #[.slice aR_seats_a aR.seats.length aR_seats_c, vi aR.tiers, vi aR.room, vi aR.size, vi aR.period, vi aR.window, vi aR.rest, vi aR.tries, vi aR.crew]))] ?_ rfl ?_))))
    · as_aux_lemma => kernel_rfl
    refine OPC (CALL 12 #[.agg #[.slice aR_seats_a aR.seats.length aR_seats_c, vi aR.tiers, vi aR.room, vi aR.size, vi aR.period, vi aR.window, vi aR.rest, vi aR.tries, vi aR.crew]] (some 15) ?_ [] [] _ rfl (⟨HH, fun p => .agg #[.slice p.1 aR.seats.length p.2, vi aR.tiers, vi aR.room, vi aR.size, vi aR.period, vi aR.window, vi aR.rest, vi aR.tries, vi aR.crew], fun p => [slA 3 intL (.slice p.1 aR.seats.length p.2) aR.seats]⟩) (fun w hw => toRules_c w aR aR_seats_a aR_seats_c (haR_seats.fr hw.fr) (by omega)) (by rintro _ ⟨⟩; exact Nat.le_of_ble_eq_true rfl) ?_)
    · as_aux_lemma => kernel_rfl
    rintro ⟨a2, c3⟩
    refine RUN0 1 [3, 4] [(1, I aTier), (2, .p 0 0), (15, .v (.agg #[.slice a2 aR.seats.length c3, vi aR.tiers, vi aR.room, vi aR.size, vi aR.period, vi aR.window, vi aR.rest, vi aR.tries, vi aR.crew])), (16, I aTier)] ?_ rfl ?_
    · as_aux_lemma => kernel_rfl
    refine OPC (CALL 11 #[.agg #[.slice a2 aR.seats.length c3, vi aR.tiers, vi aR.room, vi aR.size, vi aR.period, vi aR.window, vi aR.rest, vi aR.tries, vi aR.crew], vi aTier] (some 17) ?_ [] [] _ rfl (RV (vi (enoughFor aR aTier))) (fun w hw => sEnoughFor_c w aR a2 c3 (Rd.own (hw.own 0 rfl)) aTier) (by rintro _ ⟨⟩; exact Nat.le_of_ble_eq_true rfl) ?_)
    · as_aux_lemma => kernel_rfl
    rintro ⟨⟩
    refine RUN0 1 [] [(1, I aTier), (2, .p 0 0), (6, I (enoughFor aR aTier))] ?_ rfl ?_
    · as_aux_lemma => kernel_rfl
    refine ENDOPS (NEXT (SEQ (REGION [0, 1, 2, 3] rfl (RUN0 1 [1, 2, 3] [(1, I aTier), (2, .p 0 0), (6, I (enoughFor aR aTier)), (18, .v (.agg #[.slice aR_seats_a aR.seats.length aR_seats_c, vi aR.tiers, vi aR.room, vi aR.size, vi aR.period, vi aR.window, vi aR.rest, vi aR.tries, vi aR.crew]))] ?_ rfl ?_))))
    · as_aux_lemma => kernel_rfl
    refine OPC (CALL 12 #[.agg #[.slice aR_seats_a aR.seats.length aR_seats_c, vi aR.tiers, vi aR.room, vi aR.size, vi aR.period, vi aR.window, vi aR.rest, vi aR.tries, vi aR.crew]] (some 19) ?_ [] [] _ rfl (⟨HH, fun p => .agg #[.slice p.1 aR.seats.length p.2, vi aR.tiers, vi aR.room, vi aR.size, vi aR.period, vi aR.window, vi aR.rest, vi aR.tries, vi aR.crew], fun p => [slA 3 intL (.slice p.1 aR.seats.length p.2) aR.seats]⟩) (fun w hw => toRules_c w aR aR_seats_a aR_seats_c (haR_seats.fr hw.fr) (by omega)) (by rintro _ ⟨⟩; exact Nat.le_of_ble_eq_true rfl) ?_)
    · as_aux_lemma => kernel_rfl
    rintro ⟨a4, c5⟩
    refine RUN 2 [] [(1, I aTier), (2, .p 0 0), (6, I (enoughFor aR aTier)), (7, .p 1 0)] [(26, [.slice aR_seats_a aR.seats.length aR_seats_c, vi aR.tiers, vi aR.room, vi aR.size, vi aR.period, vi aR.window, vi aR.rest, vi aR.tries, vi aR.crew]), (29, [.slice a4 aR.seats.length c5, vi aR.tiers, vi aR.room, vi aR.size, vi aR.period, vi aR.window, vi aR.rest, vi aR.tries, vi aR.crew])] ?_ rfl ?_
    · as_aux_lemma => kernel_rfl
    refine ENDOPS (NEXT (SEQ (REGION [0, 1, 2, 3] rfl (RUN0 2 [2, 3] [(2, .p 0 0), (6, I (enoughFor aR aTier)), (7, .p 1 0), (20, .v (.agg #[.slice a4 aR.seats.length c5, vi aR.tiers, vi aR.room, vi aR.size, vi aR.period, vi aR.window, vi aR.rest, vi aR.tries, vi aR.crew])), (21, I aTier)] ?_ rfl ?_))))
    · as_aux_lemma => kernel_rfl
    refine OPC (CALL 13 #[.agg #[.slice a4 aR.seats.length c5, vi aR.tiers, vi aR.room, vi aR.size, vi aR.period, vi aR.window, vi aR.rest, vi aR.tries, vi aR.crew], vi aTier] (some 22) ?_ [] [] _ rfl (RV (vi (enoughFor aR aTier))) (fun w hw => iEnoughFor_c w aR a4 c5 (Rd.own (hw.own 1 rfl)) aTier) (by rintro _ ⟨⟩; exact Nat.le_of_ble_eq_true rfl) ?_)
    · as_aux_lemma => kernel_rfl
    rintro ⟨⟩
    refine RUN0 1 [] [(2, .p 0 0), (6, I (enoughFor aR aTier)), (7, .p 1 0), (8, I (enoughFor aR aTier))] ?_ rfl ?_
    · as_aux_lemma => kernel_rfl
    refine ENDOPS (NEXT (SEQ (SEQ (REGION [0, 1, 2] rfl (RUN0 3 [] [(2, .p 0 0), (7, .p 1 0), (25, B ((enoughFor aR aTier) != (enoughFor aR aTier)))] ?_ rfl ?_)))))
    · as_aux_lemma => kernel_rfl
    refine ENDOPS (NEXT (IF ((enoughFor aR aTier) != (enoughFor aR aTier)) ?_ (fun h6 => ?_) (fun h6 => ?_)))
    · as_aux_lemma => kernel_rfl
    · -- (enoughFor aR aTier) != (enoughFor aR aTier) = true
      have h6 := bne_iff_ne.1 h6
      refine SEQ (REGION [0] rfl (RUN0 1 [] [(4, B false)] ?_ rfl ?_))
      · as_aux_lemma => kernel_rfl
      refine ENDOPS (NEXT (RET (PASS trivial (FIN (.bool false) ?_ () ?_ [] ?_))))
      · as_aux_lemma => kernel_rfl
      · simp_all [RV, eqRules_refl]
      · rfl
    · -- (enoughFor aR aTier) != (enoughFor aR aTier) = false
      have h6 := bneF h6
      refine SKIP (NEXT (SEQ (SEQ (REGIOND ?_ 5 rfl ?_))))
      · as_aux_lemma => kernel_rfl
      refine ANY2 0 1 ?_ ?_ ?_
      · as_aux_lemma => kernel_rfl
      · -- operation 0 next
        refine RUNO [(2, .p 0 0), (26, .v (.agg #[.slice a4 aR.seats.length c5, vi aR.tiers, vi aR.room, vi aR.size, vi aR.period, vi aR.window, vi aR.rest, vi aR.tries, vi aR.crew]))] [(26, [.slice aR_seats_a aR.seats.length aR_seats_c, vi aR.tiers, vi aR.room, vi aR.size, vi aR.period, vi aR.window, vi aR.rest, vi aR.tries, vi aR.crew]), (29, [.slice a4 aR.seats.length c5, vi aR.tiers, vi aR.room, vi aR.size, vi aR.period, vi aR.window, vi aR.rest, vi aR.tries, vi aR.crew])] ?_ ?_
        · as_aux_lemma => kernel_rfl
        refine ANY1 1 ?_ ?_
        · as_aux_lemma => kernel_rfl
        refine RUNO [(26, .v (.agg #[.slice a4 aR.seats.length c5, vi aR.tiers, vi aR.room, vi aR.size, vi aR.period, vi aR.window, vi aR.rest, vi aR.tries, vi aR.crew])), (27, .v (.agg #[.slice aR_seats_a aR.seats.length aR_seats_c, vi aR.tiers, vi aR.room, vi aR.size, vi aR.period, vi aR.window, vi aR.rest, vi aR.tries, vi aR.crew]))] [(26, [.slice aR_seats_a aR.seats.length aR_seats_c, vi aR.tiers, vi aR.room, vi aR.size, vi aR.period, vi aR.window, vi aR.rest, vi aR.tries, vi aR.crew]), (29, [.slice a4 aR.seats.length c5, vi aR.tiers, vi aR.room, vi aR.size, vi aR.period, vi aR.window, vi aR.rest, vi aR.tries, vi aR.crew])] ?_ ?_
        · as_aux_lemma => kernel_rfl
        refine ANY1 2 ?_ ?_
        · as_aux_lemma => kernel_rfl
        refine CALL 12 #[.agg #[.slice aR_seats_a aR.seats.length aR_seats_c, vi aR.tiers, vi aR.room, vi aR.size, vi aR.period, vi aR.window, vi aR.rest, vi aR.tries, vi aR.crew]] (some 28) ?_ [] [] _ rfl (⟨HH, fun p => .agg #[.slice p.1 aR.seats.length p.2, vi aR.tiers, vi aR.room, vi aR.size, vi aR.period, vi aR.window, vi aR.rest, vi aR.tries, vi aR.crew], fun p => [slA 3 intL (.slice p.1 aR.seats.length p.2) aR.seats]⟩) (fun w hw => toRules_c w aR aR_seats_a aR_seats_c (haR_seats.fr hw.fr) (by omega)) (by rintro _ ⟨⟩; exact Nat.le_of_ble_eq_true rfl) ?_
        · as_aux_lemma => kernel_rfl
        rintro ⟨a7, c8⟩
        refine ANY1 3 ?_ ?_
        · as_aux_lemma => kernel_rfl
        refine CALL 14 #[.agg #[.slice a4 aR.seats.length c5, vi aR.tiers, vi aR.room, vi aR.size, vi aR.period, vi aR.window, vi aR.rest, vi aR.tries, vi aR.crew], .agg #[.slice a7 aR.seats.length c8, vi aR.tiers, vi aR.room, vi aR.size, vi aR.period, vi aR.window, vi aR.rest, vi aR.tries, vi aR.crew]] (some 29) ?_ [] [] _ rfl (RV (.bool (eqRules aR aR))) (fun w hw => eqRules_c w aR a4 c5 (Rd.own (hw.own 1 rfl)) aR a7 c8 (Rd.own (hw.own 2 rfl))) (by rintro _ ⟨⟩; exact Nat.le_of_ble_eq_true rfl) ?_
        · as_aux_lemma => kernel_rfl
        rintro ⟨⟩
        refine ANY1 4 ?_ ?_
        · as_aux_lemma => kernel_rfl
        refine RUNO [(30, B (!(eqRules aR aR)))] [(26, [.slice aR_seats_a aR.seats.length aR_seats_c, vi aR.tiers, vi aR.room, vi aR.size, vi aR.period, vi aR.window, vi aR.rest, vi aR.tries, vi aR.crew]), (29, [.slice a4 aR.seats.length c5, vi aR.tiers, vi aR.room, vi aR.size, vi aR.period, vi aR.window, vi aR.rest, vi aR.tries, vi aR.crew])] ?_ ?_
        · as_aux_lemma => kernel_rfl
        refine ANYEND ?_ ?_
        · as_aux_lemma => kernel_rfl
        refine NEXT (IF (!(eqRules aR aR)) ?_ (fun h9 => ?_) (fun h9 => ?_))
        · as_aux_lemma => kernel_rfl
        · -- !(eqRules aR aR) = true
          have h9 : (eqRules aR aR) = false := by simpa using h9
          refine SEQ (REGION [0] rfl (RUN0 1 [] [(4, B false)] ?_ rfl ?_))
          · as_aux_lemma => kernel_rfl
          refine ENDOPS (NEXT (RET (PASS trivial (FIN (.bool false) ?_ () ?_ [] ?_))))
          · as_aux_lemma => kernel_rfl
          · simp_all [RV, eqRules_refl]
          · rfl
        · -- !(eqRules aR aR) = false
          have h9 : (eqRules aR aR) = true := by simpa using h9
          refine SKIP (NEXT (SEQ (REGION [0] rfl (RUN0 1 [] [(4, B true)] ?_ rfl ?_))))
          · as_aux_lemma => kernel_rfl
          refine ENDOPS (NEXT (RET (FIN (.bool true) ?_ () ?_ [] ?_)))
          · as_aux_lemma => kernel_rfl
          · simp_all [RV, eqRules_refl]
          · rfl
      · -- operation 1 next
        refine RUNO [(7, .p 1 0), (27, .v (.agg #[.slice aR_seats_a aR.seats.length aR_seats_c, vi aR.tiers, vi aR.room, vi aR.size, vi aR.period, vi aR.window, vi aR.rest, vi aR.tries, vi aR.crew]))] [(26, [.slice aR_seats_a aR.seats.length aR_seats_c, vi aR.tiers, vi aR.room, vi aR.size, vi aR.period, vi aR.window, vi aR.rest, vi aR.tries, vi aR.crew]), (29, [.slice a4 aR.seats.length c5, vi aR.tiers, vi aR.room, vi aR.size, vi aR.period, vi aR.window, vi aR.rest, vi aR.tries, vi aR.crew])] ?_ ?_
        · as_aux_lemma => kernel_rfl
        refine ANY2 0 2 ?_ ?_ ?_
        · as_aux_lemma => kernel_rfl
        · -- operation 0 next
          refine RUNO [(26, .v (.agg #[.slice a4 aR.seats.length c5, vi aR.tiers, vi aR.room, vi aR.size, vi aR.period, vi aR.window, vi aR.rest, vi aR.tries, vi aR.crew])), (27, .v (.agg #[.slice aR_seats_a aR.seats.length aR_seats_c, vi aR.tiers, vi aR.room, vi aR.size, vi aR.period, vi aR.window, vi aR.rest, vi aR.tries, vi aR.crew]))] [(26, [.slice aR_seats_a aR.seats.length aR_seats_c, vi aR.tiers, vi aR.room, vi aR.size, vi aR.period, vi aR.window, vi aR.rest, vi aR.tries, vi aR.crew]), (29, [.slice a4 aR.seats.length c5, vi aR.tiers, vi aR.room, vi aR.size, vi aR.period, vi aR.window, vi aR.rest, vi aR.tries, vi aR.crew])] ?_ ?_
          · as_aux_lemma => kernel_rfl
          refine ANY1 2 ?_ ?_
          · as_aux_lemma => kernel_rfl
          refine CALL 12 #[.agg #[.slice aR_seats_a aR.seats.length aR_seats_c, vi aR.tiers, vi aR.room, vi aR.size, vi aR.period, vi aR.window, vi aR.rest, vi aR.tries, vi aR.crew]] (some 28) ?_ [] [] _ rfl (⟨HH, fun p => .agg #[.slice p.1 aR.seats.length p.2, vi aR.tiers, vi aR.room, vi aR.size, vi aR.period, vi aR.window, vi aR.rest, vi aR.tries, vi aR.crew], fun p => [slA 3 intL (.slice p.1 aR.seats.length p.2) aR.seats]⟩) (fun w hw => toRules_c w aR aR_seats_a aR_seats_c (haR_seats.fr hw.fr) (by omega)) (by rintro _ ⟨⟩; exact Nat.le_of_ble_eq_true rfl) ?_
          · as_aux_lemma => kernel_rfl
          rintro ⟨a10, c11⟩
          refine ANY1 3 ?_ ?_
          · as_aux_lemma => kernel_rfl
          refine CALL 14 #[.agg #[.slice a4 aR.seats.length c5, vi aR.tiers, vi aR.room, vi aR.size, vi aR.period, vi aR.window, vi aR.rest, vi aR.tries, vi aR.crew], .agg #[.slice a10 aR.seats.length c11, vi aR.tiers, vi aR.room, vi aR.size, vi aR.period, vi aR.window, vi aR.rest, vi aR.tries, vi aR.crew]] (some 29) ?_ [] [] _ rfl (RV (.bool (eqRules aR aR))) (fun w hw => eqRules_c w aR a4 c5 (Rd.own (hw.own 1 rfl)) aR a10 c11 (Rd.own (hw.own 2 rfl))) (by rintro _ ⟨⟩; exact Nat.le_of_ble_eq_true rfl) ?_
          · as_aux_lemma => kernel_rfl
          rintro ⟨⟩
          refine ANY1 4 ?_ ?_
          · as_aux_lemma => kernel_rfl
          refine RUNO [(30, B (!(eqRules aR aR)))] [(26, [.slice aR_seats_a aR.seats.length aR_seats_c, vi aR.tiers, vi aR.room, vi aR.size, vi aR.period, vi aR.window, vi aR.rest, vi aR.tries, vi aR.crew]), (29, [.slice a4 aR.seats.length c5, vi aR.tiers, vi aR.room, vi aR.size, vi aR.period, vi aR.window, vi aR.rest, vi aR.tries, vi aR.crew])] ?_ ?_
          · as_aux_lemma => kernel_rfl
          refine ANYEND ?_ ?_
          · as_aux_lemma => kernel_rfl
          refine NEXT (IF (!(eqRules aR aR)) ?_ (fun h12 => ?_) (fun h12 => ?_))
          · as_aux_lemma => kernel_rfl
          · -- !(eqRules aR aR) = true
            have h12 : (eqRules aR aR) = false := by simpa using h12
            refine SEQ (REGION [0] rfl (RUN0 1 [] [(4, B false)] ?_ rfl ?_))
            · as_aux_lemma => kernel_rfl
            refine ENDOPS (NEXT (RET (PASS trivial (FIN (.bool false) ?_ () ?_ [] ?_))))
            · as_aux_lemma => kernel_rfl
            · simp_all [RV, eqRules_refl]
            · rfl
          · -- !(eqRules aR aR) = false
            have h12 : (eqRules aR aR) = true := by simpa using h12
            refine SKIP (NEXT (SEQ (REGION [0] rfl (RUN0 1 [] [(4, B true)] ?_ rfl ?_))))
            · as_aux_lemma => kernel_rfl
            refine ENDOPS (NEXT (RET (FIN (.bool true) ?_ () ?_ [] ?_)))
            · as_aux_lemma => kernel_rfl
            · simp_all [RV, eqRules_refl]
            · rfl
        · -- operation 2 next
          refine CALL 12 #[.agg #[.slice aR_seats_a aR.seats.length aR_seats_c, vi aR.tiers, vi aR.room, vi aR.size, vi aR.period, vi aR.window, vi aR.rest, vi aR.tries, vi aR.crew]] (some 28) ?_ [] [] _ rfl (⟨HH, fun p => .agg #[.slice p.1 aR.seats.length p.2, vi aR.tiers, vi aR.room, vi aR.size, vi aR.period, vi aR.window, vi aR.rest, vi aR.tries, vi aR.crew], fun p => [slA 3 intL (.slice p.1 aR.seats.length p.2) aR.seats]⟩) (fun w hw => toRules_c w aR aR_seats_a aR_seats_c (haR_seats.fr hw.fr) (by omega)) (by rintro _ ⟨⟩; exact Nat.le_of_ble_eq_true rfl) ?_
          · as_aux_lemma => kernel_rfl
          rintro ⟨a13, c14⟩
          refine ANY1 0 ?_ ?_
          · as_aux_lemma => kernel_rfl
          refine RUNO [(26, .v (.agg #[.slice a4 aR.seats.length c5, vi aR.tiers, vi aR.room, vi aR.size, vi aR.period, vi aR.window, vi aR.rest, vi aR.tries, vi aR.crew])), (28, .v (.agg #[.slice a13 aR.seats.length c14, vi aR.tiers, vi aR.room, vi aR.size, vi aR.period, vi aR.window, vi aR.rest, vi aR.tries, vi aR.crew]))] [(26, [.slice aR_seats_a aR.seats.length aR_seats_c, vi aR.tiers, vi aR.room, vi aR.size, vi aR.period, vi aR.window, vi aR.rest, vi aR.tries, vi aR.crew]), (29, [.slice a4 aR.seats.length c5, vi aR.tiers, vi aR.room, vi aR.size, vi aR.period, vi aR.window, vi aR.rest, vi aR.tries, vi aR.crew])] ?_ ?_
          · as_aux_lemma => kernel_rfl
          refine ANY1 3 ?_ ?_
          · as_aux_lemma => kernel_rfl
          refine CALL 14 #[.agg #[.slice a4 aR.seats.length c5, vi aR.tiers, vi aR.room, vi aR.size, vi aR.period, vi aR.window, vi aR.rest, vi aR.tries, vi aR.crew], .agg #[.slice a13 aR.seats.length c14, vi aR.tiers, vi aR.room, vi aR.size, vi aR.period, vi aR.window, vi aR.rest, vi aR.tries, vi aR.crew]] (some 29) ?_ [] [] _ rfl (RV (.bool (eqRules aR aR))) (fun w hw => eqRules_c w aR a4 c5 (Rd.own (hw.own 1 rfl)) aR a13 c14 (Rd.own (hw.own 2 rfl))) (by rintro _ ⟨⟩; exact Nat.le_of_ble_eq_true rfl) ?_
          · as_aux_lemma => kernel_rfl
          rintro ⟨⟩
          refine ANY1 4 ?_ ?_
          · as_aux_lemma => kernel_rfl
          refine RUNO [(30, B (!(eqRules aR aR)))] [(26, [.slice aR_seats_a aR.seats.length aR_seats_c, vi aR.tiers, vi aR.room, vi aR.size, vi aR.period, vi aR.window, vi aR.rest, vi aR.tries, vi aR.crew]), (29, [.slice a4 aR.seats.length c5, vi aR.tiers, vi aR.room, vi aR.size, vi aR.period, vi aR.window, vi aR.rest, vi aR.tries, vi aR.crew])] ?_ ?_
          · as_aux_lemma => kernel_rfl
          refine ANYEND ?_ ?_
          · as_aux_lemma => kernel_rfl
          refine NEXT (IF (!(eqRules aR aR)) ?_ (fun h15 => ?_) (fun h15 => ?_))
          · as_aux_lemma => kernel_rfl
          · -- !(eqRules aR aR) = true
            have h15 : (eqRules aR aR) = false := by simpa using h15
            refine SEQ (REGION [0] rfl (RUN0 1 [] [(4, B false)] ?_ rfl ?_))
            · as_aux_lemma => kernel_rfl
            refine ENDOPS (NEXT (RET (PASS trivial (FIN (.bool false) ?_ () ?_ [] ?_))))
            · as_aux_lemma => kernel_rfl
            · simp_all [RV, eqRules_refl]
            · rfl
          · -- !(eqRules aR aR) = false
            have h15 : (eqRules aR aR) = true := by simpa using h15
            refine SKIP (NEXT (SEQ (REGION [0] rfl (RUN0 1 [] [(4, B true)] ?_ rfl ?_))))
            · as_aux_lemma => kernel_rfl
            refine ENDOPS (NEXT (RET (FIN (.bool true) ?_ () ?_ [] ?_)))
            · as_aux_lemma => kernel_rfl
            · simp_all [RV, eqRules_refl]
            · rfl

end SX
end Go.Proofs.Ytcjaeedkhlnegaa
