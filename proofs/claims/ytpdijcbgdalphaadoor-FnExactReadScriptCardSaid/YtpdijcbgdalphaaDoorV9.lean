/- Walks, printed by program. -/
import Derived.Test.YtpdijcbgdalphaaDoorV8
namespace Go.Proofs.YtpdijcbgdalphaaDoor
namespace SX
open Go Go.RowKit
set_option linter.unusedVariables false
set_option linter.unusedSimpArgs false
set_option maxRecDepth 10000
theorem exReadScript_c (W : World) (s : List UInt8) (htab : Tab Tryd.prog W) (hmx : MaxL Tryd.prog W) : Spec Tryd.prog W [] 7 #[.string (bs s)] (RV (.bool true)) := by
  refine ENTER0 (N := 66) (vs := [.string (bs s)]) Tryd.func7 rfl rfl (Nat.le_of_ble_eq_true rfl) ?_
  have hz := held_marks (readScript s).1 1
  have hlen := readScript_len s
  have hy := marks_end (readScript s).1 1 (by decide) (by omega)
  refine SEQ (REGION [0] rfl (RUN0 1 [] [(0, .v (.string (bs s)))] ?_ rfl ?_))
  · as_aux_lemma => kernel_rfl
  refine ENDOPS (NEXT (SEQ (SEQ (REGION [0, 1, 2] rfl (RUN0 3 [] [(0, .v (.string (bs s))), (13, B (decide ((s.length : Int) > 1048576)))] ?_ rfl ?_)))))
  · as_aux_lemma => kernel_rfl
  refine ENDOPS (NEXT (IF (decide ((s.length : Int) > 1048576)) ?_ (fun bh1 => ?_) (fun bh1 => ?_)))
  · as_aux_lemma => kernel_rfl
  · -- decide ((s.length : Int) > 1048576) = true
    have h1 := bh1
    have h1 := of_decide_eq_true h1
    refine SEQ (REGION [0] rfl (RUN0 1 [] [(2, B true)] ?_ rfl ?_))
    · as_aux_lemma => kernel_rfl
    refine ENDOPS (NEXT (RET (PASS trivial (FIN (.bool true) ?_ () ?_ [] ?_))))
    · as_aux_lemma => kernel_rfl
    · (first | (simp_all [RV, eqReqs_refl]; done) | (exfalso; simp_all [eqReqs_refl]; done) | (exfalso; simp_all [eqReqs_refl]; omega))
    · rfl
  · -- decide ((s.length : Int) > 1048576) = false
    have h1 := bh1
    have h1 := of_decide_eq_false h1
    refine SKIP (NEXT (SEQ (REGION [0, 1, 2, 3, 4, 5, 6] rfl (RUN0 1 [1, 2, 3, 4, 5, 6] [(0, .v (.string (bs s))), (15, .v (.string (bs s)))] ?_ rfl ?_))))
    · as_aux_lemma => kernel_rfl
    refine OPC (CALL 26 #[.string (bs s)] (some 16) ?_ [] [] _ rfl (⟨HH, fun p => .tuple #[.slice p.1 (((readScript s).1).length) p.2, vi ((readScript s).2)], fun p => [slA 47 reqL (.slice p.1 ((readScript s).1).length p.2) ((readScript s).1)]⟩) (fun w hw => sReadScript_c w s (by first | assumption | omega)) (by rintro _ ⟨⟩; exact Nat.le_of_ble_eq_true rfl) ?_)
    · as_aux_lemma => kernel_rfl
    rintro ⟨a2, c3⟩
    refine RUN0 5 [] [(0, .v (.string (bs s))), (3, .v (.slice a2 (((readScript s).1).length) c3)), (4, I ((readScript s).2))] ?_ rfl ?_
    · as_aux_lemma => kernel_rfl
    refine ENDOPS (NEXT (SEQ (REGION [0, 1, 2, 3, 4, 5, 6] rfl (RUN0 1 [1, 2, 3, 4, 5, 6] [(0, .v (.string (bs s))), (3, .v (.slice a2 (((readScript s).1).length) c3)), (4, I ((readScript s).2)), (20, .v (.string (bs s)))] ?_ rfl ?_))))
    · as_aux_lemma => kernel_rfl
    refine OPC (CALL 27 #[.string (bs s)] (some 21) ?_ [] [] _ rfl (⟨HH, fun p => .tuple #[.slice p.1 (((readScript s).1).length) p.2, vi ((readScript s).2)], fun p => [slA 47 reqL (.slice p.1 ((readScript s).1).length p.2) ((readScript s).1)]⟩) (fun w hw => iReadScript_c w s (by first | assumption | omega) (htab.fr hw.fr) (hmx.fr hw.fr)) (by rintro _ ⟨⟩; exact Nat.le_of_ble_eq_true rfl) ?_)
    · as_aux_lemma => kernel_rfl
    rintro ⟨a4, c5⟩
    refine RUN0 5 [] [(0, .v (.string (bs s))), (3, .v (.slice a2 (((readScript s).1).length) c3)), (4, I ((readScript s).2)), (5, .v (.slice a4 (((readScript s).1).length) c5)), (6, I ((readScript s).2))] ?_ rfl ?_
    · as_aux_lemma => kernel_rfl
    refine ENDOPS (NEXT (SEQ (SEQ (REGION [0, 1, 2, 3, 4, 5, 6, 7, 8] rfl (RUN0 2 [2, 3, 4, 5, 6, 7, 8] [(0, .v (.string (bs s))), (3, .v (.slice a2 (((readScript s).1).length) c3)), (4, I ((readScript s).2)), (5, .v (.slice a4 (((readScript s).1).length) c5)), (6, I ((readScript s).2)), (24, .v (.slice a4 (((readScript s).1).length) c5)), (25, .v (.slice a2 (((readScript s).1).length) c3))] ?_ rfl ?_)))))
    · as_aux_lemma => kernel_rfl
    refine OPC (CALL 17 #[.slice a4 (((readScript s).1).length) c5, .slice a2 (((readScript s).1).length) c3] (some 26) ?_ [] [] _ rfl (RV (.bool (eqReqs ((readScript s).1) ((readScript s).1)))) (fun w hw => eqReqS_c w ((readScript s).1) a4 c5 (Rd.own (hw.own 1 rfl)) ((readScript s).1) a2 c3 (Rd.own (hw.own 0 rfl))) (by rintro _ ⟨⟩; exact Nat.le_of_ble_eq_true rfl) ?_)
    · as_aux_lemma => kernel_rfl
    rintro ⟨⟩
    refine RUN0 2 [5, 6, 7, 8] [(0, .v (.string (bs s))), (3, .v (.slice a2 (((readScript s).1).length) c3)), (4, I ((readScript s).2)), (5, .v (.slice a4 (((readScript s).1).length) c5)), (6, I ((readScript s).2)), (28, B (!(eqReqs ((readScript s).1) ((readScript s).1))))] ?_ rfl ?_
    · as_aux_lemma => kernel_rfl
    refine SPLIT (d := 28) (!(eqReqs ((readScript s).1) ((readScript s).1))) ?_ (fun bh6 => ?_) (fun bh6 => ?_)
    · as_aux_lemma => kernel_rfl
    · -- !(eqReqs ((readScript s).1) ((readScript s).1)) = true
      have h6 := bh6
      have h6 := notT h6
      refine RUN0 4 [] [(0, .v (.string (bs s))), (3, .v (.slice a2 (((readScript s).1).length) c3)), (4, I ((readScript s).2)), (5, .v (.slice a4 (((readScript s).1).length) c5)), (32, B true)] ?_ rfl ?_
      · as_aux_lemma => kernel_rfl
      refine ENDOPS (NEXT (IFT ?_ ?_))
      · as_aux_lemma => kernel_rfl
      refine SEQ (REGION [0] rfl (RUN0 1 [] [(2, B false)] ?_ rfl ?_))
      · as_aux_lemma => kernel_rfl
      refine ENDOPS (NEXT (RET (PASS trivial (FIN (.bool false) ?_ () ?_ [] ?_))))
      · as_aux_lemma => kernel_rfl
      · (first | (simp_all [RV, eqReqs_refl]; done) | (exfalso; simp_all [eqReqs_refl]; done) | (exfalso; simp_all [eqReqs_refl]; omega))
      · rfl
    · -- !(eqReqs ((readScript s).1) ((readScript s).1)) = false
      have h6 := bh6
      have h6 := notF h6
      refine RUN0 4 [] [(0, .v (.string (bs s))), (3, .v (.slice a2 (((readScript s).1).length) c3)), (4, I ((readScript s).2)), (5, .v (.slice a4 (((readScript s).1).length) c5)), (32, B (((readScript s).2) != ((readScript s).2)))] ?_ rfl ?_
      · as_aux_lemma => kernel_rfl
      refine ENDOPS (NEXT (IF (((readScript s).2) != ((readScript s).2)) ?_ (fun bh7 => ?_) (fun bh7 => ?_)))
      · as_aux_lemma => kernel_rfl
      · -- ((readScript s).2) != ((readScript s).2) = true
        have h7 := bh7
        have h7 := bne_iff_ne.1 h7
        refine SEQ (REGION [0] rfl (RUN0 1 [] [(2, B false)] ?_ rfl ?_))
        · as_aux_lemma => kernel_rfl
        refine ENDOPS (NEXT (RET (PASS trivial (FIN (.bool false) ?_ () ?_ [] ?_))))
        · as_aux_lemma => kernel_rfl
        · (first | (simp_all [RV, eqReqs_refl]; done) | (exfalso; simp_all [eqReqs_refl]; done) | (exfalso; simp_all [eqReqs_refl]; omega))
        · rfl
      · -- ((readScript s).2) != ((readScript s).2) = false
        have h7 := bh7
        have h7 := bneF h7
        refine SKIP (NEXT (SEQ (REGION [0] rfl (RUN0 1 [] [(0, .v (.string (bs s))), (3, .v (.slice a2 (((readScript s).1).length) c3)), (4, I ((readScript s).2)), (5, .v (.slice a4 (((readScript s).1).length) c5)), (7, I 1)] ?_ rfl ?_))))
        · as_aux_lemma => kernel_rfl
        refine ENDOPS (NEXT (SEQ (REGION [0, 1, 2, 3] rfl (RUN0 2 [2, 3] [(0, .v (.string (bs s))), (3, .v (.slice a2 (((readScript s).1).length) c3)), (4, I ((readScript s).2)), (5, .v (.slice a4 (((readScript s).1).length) c5)), (33, .v (.slice a4 (((readScript s).1).length) c5)), (34, I 1)] ?_ rfl ?_))))
        · as_aux_lemma => kernel_rfl
        refine FACT ((((readScript s).1).length) = ((readScript s).1).length) (fun w hw => (SlO.lenE (hw.own 1 rfl)).1) (fun hln8 => ?_)
        refine OPC (CALL 28 #[.slice a4 (((readScript s).1).length) c5, vi 1] (some 35) ?_ [1] [slA 47 reqL (.slice a4 (((readScript s).1).length) c5) ((readScript s).1)] _ rfl (⟨Unit, fun _ => vi ((markReqs ((readScript s).1) 1).2), fun _ => [slA 47 reqL (.slice a4 (((readScript s).1).length) c5) ((markReqs ((readScript s).1) 1).1)]⟩) (fun w hw => markReqS_c w ((readScript s).1) a4 (((readScript s).1).length) c5 1) (by rintro _ ⟨⟩; exact Nat.le_of_ble_eq_true rfl) ?_)
        · as_aux_lemma => kernel_rfl
        rintro ⟨⟩
        refine RUN0 1 [] [(0, .v (.string (bs s))), (3, .v (.slice a2 (((readScript s).1).length) c3)), (4, I ((readScript s).2)), (5, .v (.slice a4 (((readScript s).1).length) c5)), (7, I ((markReqs ((readScript s).1) 1).2))] ?_ rfl ?_
        · as_aux_lemma => kernel_rfl
        refine ENDOPS (NEXT (SEQ (REGION [0] rfl (RUN0 1 [] [(0, .v (.string (bs s))), (3, .v (.slice a2 (((readScript s).1).length) c3)), (4, I ((readScript s).2)), (5, .v (.slice a4 (((readScript s).1).length) c5)), (7, I ((markReqs ((readScript s).1) 1).2)), (8, I 1)] ?_ rfl ?_))))
        · as_aux_lemma => kernel_rfl
        refine ENDOPS (NEXT (SEQ (REGION [0, 1, 2, 3] rfl (RUN0 2 [2, 3] [(0, .v (.string (bs s))), (3, .v (.slice a2 (((readScript s).1).length) c3)), (4, I ((readScript s).2)), (5, .v (.slice a4 (((readScript s).1).length) c5)), (7, I ((markReqs ((readScript s).1) 1).2)), (36, .v (.slice a4 (((readScript s).1).length) c5)), (37, I 1)] ?_ rfl ?_))))
        · as_aux_lemma => kernel_rfl
        refine FACT ((((readScript s).1).length) = ((markReqs ((readScript s).1) 1).1).length) (fun w hw => (SlO.lenE (hw.own 1 rfl)).1) (fun hln9 => ?_)
        refine OPC (CALL 29 #[.slice a4 (((readScript s).1).length) c5, vi 1] (some 38) ?_ [] [] _ rfl (RV (vi (heldReqs ((markReqs ((readScript s).1) 1).1) 1))) (fun w hw => (congrArg (fun z : Nat => Spec Tryd.prog w [] 29 #[.slice a4 z c5, vi 1] (RV (vi (heldReqs ((markReqs ((readScript s).1) 1).1) 1)))) hln9).mpr (heldReqS_c w ((markReqs ((readScript s).1) 1).1) a4 c5 (Rd.own (hw.own 1 rfl)) 1)) (by rintro _ ⟨⟩; exact Nat.le_of_ble_eq_true rfl) ?_)
        · as_aux_lemma => kernel_rfl
        rintro ⟨⟩
        refine RUN0 1 [] [(0, .v (.string (bs s))), (3, .v (.slice a2 (((readScript s).1).length) c3)), (4, I ((readScript s).2)), (5, .v (.slice a4 (((readScript s).1).length) c5)), (7, I ((markReqs ((readScript s).1) 1).2)), (8, I (heldReqs ((markReqs ((readScript s).1) 1).1) 1))] ?_ rfl ?_
        · as_aux_lemma => kernel_rfl
        refine ENDOPS (NEXT (SEQ (SEQ (REGION [0, 1] rfl (RUN0 2 [] [(0, .v (.string (bs s))), (3, .v (.slice a2 (((readScript s).1).length) c3)), (4, I ((readScript s).2)), (5, .v (.slice a4 (((readScript s).1).length) c5)), (7, I ((markReqs ((readScript s).1) 1).2)), (8, I (heldReqs ((markReqs ((readScript s).1) 1).1) 1)), (40, B (decide ((heldReqs ((markReqs ((readScript s).1) 1).1) 1) < 0)))] ?_ rfl ?_)))))
        · as_aux_lemma => kernel_rfl
        refine ENDOPS (NEXT (IF (decide ((heldReqs ((markReqs ((readScript s).1) 1).1) 1) < 0)) ?_ (fun bh10 => ?_) (fun bh10 => ?_)))
        · as_aux_lemma => kernel_rfl
        · -- decide ((heldReqs ((markReqs ((readScript s).1) 1).1) 1) < 0) = true
          have h10 := bh10
          have h10 := of_decide_eq_true h10
          refine SEQ (REGION [0] rfl (RUN0 1 [] [(2, B false)] ?_ rfl ?_))
          · as_aux_lemma => kernel_rfl
          refine ENDOPS (NEXT (RET (PASS trivial (FIN (.bool false) ?_ () ?_ [] ?_))))
          · as_aux_lemma => kernel_rfl
          · (first | (simp_all [RV, eqReqs_refl]; done) | (exfalso; simp_all [eqReqs_refl]; done) | (exfalso; simp_all [eqReqs_refl]; omega))
          · rfl
        · -- decide ((heldReqs ((markReqs ((readScript s).1) 1).1) 1) < 0) = false
          have h10 := bh10
          have h10 := of_decide_eq_false h10
          refine SKIP (NEXT (SEQ (SEQ (REGION [0, 1, 2] rfl (RUN0 3 [] [(0, .v (.string (bs s))), (3, .v (.slice a2 (((readScript s).1).length) c3)), (4, I ((readScript s).2)), (5, .v (.slice a4 (((readScript s).1).length) c5)), (7, I ((markReqs ((readScript s).1) 1).2)), (43, B ((heldReqs ((markReqs ((readScript s).1) 1).1) 1) != ((markReqs ((readScript s).1) 1).2)))] ?_ rfl ?_)))))
          · as_aux_lemma => kernel_rfl
          refine ENDOPS (NEXT (IF ((heldReqs ((markReqs ((readScript s).1) 1).1) 1) != ((markReqs ((readScript s).1) 1).2)) ?_ (fun bh11 => ?_) (fun bh11 => ?_)))
          · as_aux_lemma => kernel_rfl
          · -- (heldReqs ((markReqs ((readScript s).1) 1).1) 1) != ((markReqs ((readScript s).1) 1).2) = true
            have h11 := bh11
            have h11 := bne_iff_ne.1 h11
            refine SEQ (REGION [0] rfl (RUN0 1 [] [(2, B false)] ?_ rfl ?_))
            · as_aux_lemma => kernel_rfl
            refine ENDOPS (NEXT (RET (PASS trivial (FIN (.bool false) ?_ () ?_ [] ?_))))
            · as_aux_lemma => kernel_rfl
            · (first | (simp_all [RV, eqReqs_refl]; done) | (exfalso; simp_all [eqReqs_refl]; done) | (exfalso; simp_all [eqReqs_refl]; omega))
            · rfl
          · -- (heldReqs ((markReqs ((readScript s).1) 1).1) 1) != ((markReqs ((readScript s).1) 1).2) = false
            have h11 := bh11
            have h11 := bneF h11
            refine SKIP (NEXT (SEQ (REGION [0, 1, 2, 3, 4, 5, 6] rfl (RUN0 1 [1, 2, 3, 4, 5, 6] [(3, .v (.slice a2 (((readScript s).1).length) c3)), (4, I ((readScript s).2)), (5, .v (.slice a4 (((readScript s).1).length) c5)), (7, I ((markReqs ((readScript s).1) 1).2)), (45, .v (.string (bs s)))] ?_ rfl ?_))))
            · as_aux_lemma => kernel_rfl
            refine OPC (CALL 27 #[.string (bs s)] (some 46) ?_ [] [] _ rfl (⟨HH, fun p => .tuple #[.slice p.1 (((readScript s).1).length) p.2, vi ((readScript s).2)], fun p => [slA 47 reqL (.slice p.1 ((readScript s).1).length p.2) ((readScript s).1)]⟩) (fun w hw => iReadScript_c w s (by first | assumption | omega) (htab.fr hw.fr) (hmx.fr hw.fr)) (by rintro _ ⟨⟩; exact Nat.le_of_ble_eq_true rfl) ?_)
            · as_aux_lemma => kernel_rfl
            rintro ⟨a12, c13⟩
            refine RUN0 5 [] [(3, .v (.slice a2 (((readScript s).1).length) c3)), (4, I ((readScript s).2)), (5, .v (.slice a4 (((readScript s).1).length) c5)), (7, I ((markReqs ((readScript s).1) 1).2)), (9, .v (.slice a12 (((readScript s).1).length) c13)), (10, I ((readScript s).2))] ?_ rfl ?_
            · as_aux_lemma => kernel_rfl
            refine ENDOPS (NEXT (SEQ (SEQ (REGION [0, 1, 2, 3, 4, 5, 6, 7, 8] rfl (RUN0 2 [2, 3, 4, 5, 6, 7, 8] [(4, I ((readScript s).2)), (5, .v (.slice a4 (((readScript s).1).length) c5)), (7, I ((markReqs ((readScript s).1) 1).2)), (10, I ((readScript s).2)), (49, .v (.slice a12 (((readScript s).1).length) c13)), (50, .v (.slice a2 (((readScript s).1).length) c3))] ?_ rfl ?_)))))
            · as_aux_lemma => kernel_rfl
            refine OPC (CALL 17 #[.slice a12 (((readScript s).1).length) c13, .slice a2 (((readScript s).1).length) c3] (some 51) ?_ [] [] _ rfl (RV (.bool (eqReqs ((readScript s).1) ((readScript s).1)))) (fun w hw => eqReqS_c w ((readScript s).1) a12 c13 (Rd.own (hw.own 2 rfl)) ((readScript s).1) a2 c3 (Rd.own (hw.own 0 rfl))) (by rintro _ ⟨⟩; exact Nat.le_of_ble_eq_true rfl) ?_)
            · as_aux_lemma => kernel_rfl
            rintro ⟨⟩
            refine RUN0 2 [5, 6, 7, 8] [(4, I ((readScript s).2)), (5, .v (.slice a4 (((readScript s).1).length) c5)), (7, I ((markReqs ((readScript s).1) 1).2)), (10, I ((readScript s).2)), (53, B (!(eqReqs ((readScript s).1) ((readScript s).1))))] ?_ rfl ?_
            · as_aux_lemma => kernel_rfl
            refine SPLIT (d := 53) (!(eqReqs ((readScript s).1) ((readScript s).1))) ?_ (fun bh14 => ?_) (fun bh14 => ?_)
            · as_aux_lemma => kernel_rfl
            · exact Bool.noConfusion (bh6.symm.trans bh14)
            · -- !(eqReqs ((readScript s).1) ((readScript s).1)) = false
              have h14 := bh14
              have h14 := notF h14
              refine RUN0 4 [] [(5, .v (.slice a4 (((readScript s).1).length) c5)), (7, I ((markReqs ((readScript s).1) 1).2)), (57, B (((readScript s).2) != ((readScript s).2)))] ?_ rfl ?_
              · as_aux_lemma => kernel_rfl
              refine ENDOPS (NEXT (IF (((readScript s).2) != ((readScript s).2)) ?_ (fun bh15 => ?_) (fun bh15 => ?_)))
              · as_aux_lemma => kernel_rfl
              · exact Bool.noConfusion (bh7.symm.trans bh15)
              · -- ((readScript s).2) != ((readScript s).2) = false
                have h15 := bh15
                have h15 := bneF h15
                refine SKIP (NEXT (SEQ (REGION [0] rfl (RUN0 1 [] [(5, .v (.slice a4 (((readScript s).1).length) c5)), (7, I ((markReqs ((readScript s).1) 1).2)), (8, I 1)] ?_ rfl ?_))))
                · as_aux_lemma => kernel_rfl
                refine ENDOPS (NEXT (SEQ (REGION [0, 1, 2, 3] rfl (RUN0 2 [2, 3] [(7, I ((markReqs ((readScript s).1) 1).2)), (58, .v (.slice a4 (((readScript s).1).length) c5)), (59, I 1)] ?_ rfl ?_))))
                · as_aux_lemma => kernel_rfl
                refine FACT ((((readScript s).1).length) = ((markReqs ((readScript s).1) 1).1).length) (fun w hw => (SlO.lenE (hw.own 1 rfl)).1) (fun hln16 => ?_)
                refine OPC (CALL 29 #[.slice a4 (((readScript s).1).length) c5, vi 1] (some 60) ?_ [] [] _ rfl (RV (vi (heldReqs ((markReqs ((readScript s).1) 1).1) 1))) (fun w hw => (congrArg (fun z : Nat => Spec Tryd.prog w [] 29 #[.slice a4 z c5, vi 1] (RV (vi (heldReqs ((markReqs ((readScript s).1) 1).1) 1)))) hln16).mpr (heldReqS_c w ((markReqs ((readScript s).1) 1).1) a4 c5 (Rd.own (hw.own 1 rfl)) 1)) (by rintro _ ⟨⟩; exact Nat.le_of_ble_eq_true rfl) ?_)
                · as_aux_lemma => kernel_rfl
                rintro ⟨⟩
                refine RUN0 1 [] [(7, I ((markReqs ((readScript s).1) 1).2)), (8, I (heldReqs ((markReqs ((readScript s).1) 1).1) 1))] ?_ rfl ?_
                · as_aux_lemma => kernel_rfl
                refine ENDOPS (NEXT (SEQ (SEQ (REGION [0, 1] rfl (RUN0 2 [] [(7, I ((markReqs ((readScript s).1) 1).2)), (8, I (heldReqs ((markReqs ((readScript s).1) 1).1) 1)), (62, B (decide ((heldReqs ((markReqs ((readScript s).1) 1).1) 1) < 0)))] ?_ rfl ?_)))))
                · as_aux_lemma => kernel_rfl
                refine ENDOPS (NEXT (IF (decide ((heldReqs ((markReqs ((readScript s).1) 1).1) 1) < 0)) ?_ (fun bh17 => ?_) (fun bh17 => ?_)))
                · as_aux_lemma => kernel_rfl
                · exact Bool.noConfusion (bh10.symm.trans bh17)
                · -- decide ((heldReqs ((markReqs ((readScript s).1) 1).1) 1) < 0) = false
                  have h17 := bh17
                  have h17 := of_decide_eq_false h17
                  refine SKIP (NEXT (SEQ (SEQ (REGION [0, 1, 2] rfl (RUN0 3 [] [(65, B ((heldReqs ((markReqs ((readScript s).1) 1).1) 1) != ((markReqs ((readScript s).1) 1).2)))] ?_ rfl ?_)))))
                  · as_aux_lemma => kernel_rfl
                  refine ENDOPS (NEXT (IF ((heldReqs ((markReqs ((readScript s).1) 1).1) 1) != ((markReqs ((readScript s).1) 1).2)) ?_ (fun bh18 => ?_) (fun bh18 => ?_)))
                  · as_aux_lemma => kernel_rfl
                  · exact Bool.noConfusion (bh11.symm.trans bh18)
                  · -- (heldReqs ((markReqs ((readScript s).1) 1).1) 1) != ((markReqs ((readScript s).1) 1).2) = false
                    have h18 := bh18
                    have h18 := bneF h18
                    refine SKIP (NEXT (SEQ (REGION [0] rfl (RUN0 1 [] [(2, B true)] ?_ rfl ?_))))
                    · as_aux_lemma => kernel_rfl
                    refine ENDOPS (NEXT (RET (FIN (.bool true) ?_ () ?_ [] ?_)))
                    · as_aux_lemma => kernel_rfl
                    · (first | (simp_all [RV, eqReqs_refl]; done) | (exfalso; simp_all [eqReqs_refl]; done) | (exfalso; simp_all [eqReqs_refl]; omega))
                    · rfl

end SX
end Go.Proofs.YtpdijcbgdalphaaDoor
