/- Walks, printed by program. -/
import Derived.Test.YtpdijcbgdalphabDoorV4
import Derived.Test.YtpdijcbgdalphabDoorV5
namespace Go.Proofs.YtpdijcbgdalphabDoor
namespace SX
open Go Go.RowKit
set_option linter.unusedVariables false
set_option linter.unusedSimpArgs false
set_option maxRecDepth 10000
theorem exReadAct_c (W : World) (line : List UInt8) (htab : Tab Tryd.prog W) (hmx : MaxL Tryd.prog W) : Spec Tryd.prog W [] 3 #[.string (bs line)] (RV (.bool true)) := by
  refine ENTER0 (N := 66) (vs := [.string (bs line)]) Tryd.func3 rfl rfl (Nat.le_of_ble_eq_true rfl) ?_
  have hz := held_mark (optAct (readActI line)).keep 1
  have hlen := optAct_len line
  have hy := mark_end (optAct (readActI line)).keep 1 (by decide) (by omega)
  refine SEQ (REGION [0] rfl (RUN0 1 [] [(0, .v (.string (bs line)))] ?_ rfl ?_))
  · as_aux_lemma => kernel_rfl
  refine ENDOPS (NEXT (SEQ (SEQ (REGION [0, 1, 2] rfl (RUN0 3 [] [(0, .v (.string (bs line))), (13, B (decide ((line.length : Int) > 1048576)))] ?_ rfl ?_)))))
  · as_aux_lemma => kernel_rfl
  refine ENDOPS (NEXT (IF (decide ((line.length : Int) > 1048576)) ?_ (fun bh1 => ?_) (fun bh1 => ?_)))
  · as_aux_lemma => kernel_rfl
  · -- decide ((line.length : Int) > 1048576) = true
    have h1 := bh1
    have h1 := of_decide_eq_true h1
    refine SEQ (REGION [0] rfl (RUN0 1 [] [(2, B true)] ?_ rfl ?_))
    · as_aux_lemma => kernel_rfl
    refine ENDOPS (NEXT (RET (PASS trivial (FIN (.bool true) ?_ () ?_ [] ?_))))
    · as_aux_lemma => kernel_rfl
    · (first | (simp_all [RV, readAct_eq, eqAct_refl, heldAct]; done) | (exfalso; simp_all [readAct_eq, eqAct_refl, heldAct]; done) | (exfalso; simp_all [readAct_eq, eqAct_refl, heldAct]; omega))
    · rfl
  · -- decide ((line.length : Int) > 1048576) = false
    have h1 := bh1
    have h1 := of_decide_eq_false h1
    refine SKIP (NEXT (SEQ (REGION [0, 1, 2, 3, 4, 5, 6, 7] rfl (RUN0 1 [1, 2, 3, 4, 5, 6, 7] [(0, .v (.string (bs line))), (15, .v (.string (bs line)))] ?_ rfl ?_))))
    · as_aux_lemma => kernel_rfl
    refine OPC (CALL 4 #[.string (bs line)] (some 16) ?_ [] [] _ rfl (⟨HH, fun p => .tuple #[.agg #[vi ((optAct (readActS line)).kind), vi (((optAct (readActS line)).req).kind), vi (((optAct (readActS line)).req).id), vi (((optAct (readActS line)).req).cabin), vi (((optAct (readActS line)).req).from'), vi (((optAct (readActS line)).req).size), vi (((optAct (readActS line)).req).tier), vi ((optAct (readActS line)).n), .slice p.1 (((optAct (readActS line)).keep).length) p.2], .bool ((readActS line).isSome)], fun p => [slA 3 intL (.slice p.1 ((optAct (readActS line)).keep).length p.2) ((optAct (readActS line)).keep)]⟩) (fun w hw => sReadAct_c w line (by first | assumption | omega)) (by rintro _ ⟨⟩; exact Nat.le_of_ble_eq_true rfl) ?_)
    · as_aux_lemma => kernel_rfl
    rintro ⟨a2, c3⟩
    refine RUN 6 [] [(0, .v (.string (bs line))), (3, .p 0 0), (4, B ((readActS line).isSome))] [(26, [vi ((optAct (readActS line)).kind), vi (((optAct (readActS line)).req).kind), vi (((optAct (readActS line)).req).id), vi (((optAct (readActS line)).req).cabin), vi (((optAct (readActS line)).req).from'), vi (((optAct (readActS line)).req).size), vi (((optAct (readActS line)).req).tier), vi ((optAct (readActS line)).n), .slice a2 (((optAct (readActS line)).keep).length) c3])] ?_ rfl ?_
    · as_aux_lemma => kernel_rfl
    refine ENDOPS (NEXT (SEQ (REGION [0, 1, 2, 3, 4, 5, 6, 7] rfl (RUN0 1 [1, 2, 3, 4, 5, 6, 7] [(0, .v (.string (bs line))), (3, .p 0 0), (4, B ((readActS line).isSome)), (20, .v (.string (bs line)))] ?_ rfl ?_))))
    · as_aux_lemma => kernel_rfl
    refine OPC (CALL 5 #[.string (bs line)] (some 21) ?_ [] [] _ rfl (⟨HH, fun p => .tuple #[.agg #[vi ((optAct (readActI line)).kind), vi (((optAct (readActI line)).req).kind), vi (((optAct (readActI line)).req).id), vi (((optAct (readActI line)).req).cabin), vi (((optAct (readActI line)).req).from'), vi (((optAct (readActI line)).req).size), vi (((optAct (readActI line)).req).tier), vi ((optAct (readActI line)).n), .slice p.1 (((optAct (readActI line)).keep).length) p.2], .bool ((readActI line).isSome)], fun p => [slA 3 intL (.slice p.1 ((optAct (readActI line)).keep).length p.2) ((optAct (readActI line)).keep)]⟩) (fun w hw => iReadAct_c w line (by first | assumption | omega) (htab.fr hw.fr) (hmx.fr hw.fr)) (by rintro _ ⟨⟩; exact Nat.le_of_ble_eq_true rfl) ?_)
    · as_aux_lemma => kernel_rfl
    rintro ⟨a4, c5⟩
    refine RUN 6 [] [(0, .v (.string (bs line))), (3, .p 0 0), (4, B ((readActS line).isSome)), (5, .p 1 0), (6, B ((readActI line).isSome))] [(26, [vi ((optAct (readActS line)).kind), vi (((optAct (readActS line)).req).kind), vi (((optAct (readActS line)).req).id), vi (((optAct (readActS line)).req).cabin), vi (((optAct (readActS line)).req).from'), vi (((optAct (readActS line)).req).size), vi (((optAct (readActS line)).req).tier), vi ((optAct (readActS line)).n), .slice a2 (((optAct (readActS line)).keep).length) c3]), (26, [vi ((optAct (readActI line)).kind), vi (((optAct (readActI line)).req).kind), vi (((optAct (readActI line)).req).id), vi (((optAct (readActI line)).req).cabin), vi (((optAct (readActI line)).req).from'), vi (((optAct (readActI line)).req).size), vi (((optAct (readActI line)).req).tier), vi ((optAct (readActI line)).n), .slice a4 (((optAct (readActI line)).keep).length) c5])] ?_ rfl ?_
    · as_aux_lemma => kernel_rfl
    refine ENDOPS (NEXT (SEQ (SEQ (REGION [0, 1, 2, 3, 4, 5, 6, 7, 8] rfl (RUN0 2 [2, 3, 4, 5, 6, 7, 8] [(0, .v (.string (bs line))), (3, .p 0 0), (4, B ((readActS line).isSome)), (5, .p 1 0), (6, B ((readActI line).isSome)), (24, .v (.agg #[vi ((optAct (readActI line)).kind), vi (((optAct (readActI line)).req).kind), vi (((optAct (readActI line)).req).id), vi (((optAct (readActI line)).req).cabin), vi (((optAct (readActI line)).req).from'), vi (((optAct (readActI line)).req).size), vi (((optAct (readActI line)).req).tier), vi ((optAct (readActI line)).n), .slice a4 (((optAct (readActI line)).keep).length) c5])), (25, .v (.agg #[vi ((optAct (readActS line)).kind), vi (((optAct (readActS line)).req).kind), vi (((optAct (readActS line)).req).id), vi (((optAct (readActS line)).req).cabin), vi (((optAct (readActS line)).req).from'), vi (((optAct (readActS line)).req).size), vi (((optAct (readActS line)).req).tier), vi ((optAct (readActS line)).n), .slice a2 (((optAct (readActS line)).keep).length) c3]))] ?_ rfl ?_)))))
    · as_aux_lemma => kernel_rfl
    refine OPC (CALL 6 #[.agg #[vi ((optAct (readActI line)).kind), vi (((optAct (readActI line)).req).kind), vi (((optAct (readActI line)).req).id), vi (((optAct (readActI line)).req).cabin), vi (((optAct (readActI line)).req).from'), vi (((optAct (readActI line)).req).size), vi (((optAct (readActI line)).req).tier), vi ((optAct (readActI line)).n), .slice a4 (((optAct (readActI line)).keep).length) c5], .agg #[vi ((optAct (readActS line)).kind), vi (((optAct (readActS line)).req).kind), vi (((optAct (readActS line)).req).id), vi (((optAct (readActS line)).req).cabin), vi (((optAct (readActS line)).req).from'), vi (((optAct (readActS line)).req).size), vi (((optAct (readActS line)).req).tier), vi ((optAct (readActS line)).n), .slice a2 (((optAct (readActS line)).keep).length) c3]] (some 26) ?_ [] [] _ rfl (RV (.bool (eqAct (⟨(optAct (readActI line)).kind, ((optAct (readActI line)).req), (optAct (readActI line)).n, (optAct (readActI line)).keep⟩ : Act) (⟨(optAct (readActS line)).kind, ((optAct (readActS line)).req), (optAct (readActS line)).n, (optAct (readActS line)).keep⟩ : Act)))) (fun w hw => eqAct_c w (⟨(optAct (readActI line)).kind, ((optAct (readActI line)).req), (optAct (readActI line)).n, (optAct (readActI line)).keep⟩ : Act) a4 c5 (Rd.own (hw.own 1 rfl)) (⟨(optAct (readActS line)).kind, ((optAct (readActS line)).req), (optAct (readActS line)).n, (optAct (readActS line)).keep⟩ : Act) a2 c3 (Rd.own (hw.own 0 rfl))) (by rintro _ ⟨⟩; exact Nat.le_of_ble_eq_true rfl) ?_)
    · as_aux_lemma => kernel_rfl
    rintro ⟨⟩
    refine RUN0 2 [5, 6, 7, 8] [(0, .v (.string (bs line))), (3, .p 0 0), (4, B ((readActS line).isSome)), (5, .p 1 0), (6, B ((readActI line).isSome)), (28, B (!(eqAct (⟨(optAct (readActI line)).kind, ((optAct (readActI line)).req), (optAct (readActI line)).n, (optAct (readActI line)).keep⟩ : Act) (⟨(optAct (readActS line)).kind, ((optAct (readActS line)).req), (optAct (readActS line)).n, (optAct (readActS line)).keep⟩ : Act))))] ?_ rfl ?_
    · as_aux_lemma => kernel_rfl
    refine SPLIT (d := 28) (!(eqAct (⟨(optAct (readActI line)).kind, ((optAct (readActI line)).req), (optAct (readActI line)).n, (optAct (readActI line)).keep⟩ : Act) (⟨(optAct (readActS line)).kind, ((optAct (readActS line)).req), (optAct (readActS line)).n, (optAct (readActS line)).keep⟩ : Act))) ?_ (fun bh6 => ?_) (fun bh6 => ?_)
    · as_aux_lemma => kernel_rfl
    · -- !(eqAct (⟨(optAct (readActI line)).kind, ((optAct (readActI line)).req), (optAct (readActI line)).n, = true
      have h6 := bh6
      have h6 := notT h6
      refine RUN0 4 [] [(0, .v (.string (bs line))), (3, .p 0 0), (4, B ((readActS line).isSome)), (5, .p 1 0), (32, B true)] ?_ rfl ?_
      · as_aux_lemma => kernel_rfl
      refine ENDOPS (NEXT (IFT ?_ ?_))
      · as_aux_lemma => kernel_rfl
      refine SEQ (REGION [0] rfl (RUN0 1 [] [(2, B false)] ?_ rfl ?_))
      · as_aux_lemma => kernel_rfl
      refine ENDOPS (NEXT (RET (PASS trivial (FIN (.bool false) ?_ () ?_ [] ?_))))
      · as_aux_lemma => kernel_rfl
      · (first | (simp_all [RV, readAct_eq, eqAct_refl, heldAct]; done) | (exfalso; simp_all [readAct_eq, eqAct_refl, heldAct]; done) | (exfalso; simp_all [readAct_eq, eqAct_refl, heldAct]; omega))
      · rfl
    · -- !(eqAct (⟨(optAct (readActI line)).kind, ((optAct (readActI line)).req), (optAct (readActI line)).n, = false
      have h6 := bh6
      have h6 := notF h6
      refine RUN0 4 [] [(0, .v (.string (bs line))), (3, .p 0 0), (4, B ((readActS line).isSome)), (5, .p 1 0), (32, B (!(((readActI line).isSome) == ((readActS line).isSome))))] ?_ rfl ?_
      · as_aux_lemma => kernel_rfl
      refine ENDOPS (NEXT (IF (!(((readActI line).isSome) == ((readActS line).isSome))) ?_ (fun bh7 => ?_) (fun bh7 => ?_)))
      · as_aux_lemma => kernel_rfl
      · -- !(((readActI line).isSome) == ((readActS line).isSome)) = true
        have h7 := bh7
        have h7 := notT h7
        have h7 := ne_of_beq_false h7
        refine SEQ (REGION [0] rfl (RUN0 1 [] [(2, B false)] ?_ rfl ?_))
        · as_aux_lemma => kernel_rfl
        refine ENDOPS (NEXT (RET (PASS trivial (FIN (.bool false) ?_ () ?_ [] ?_))))
        · as_aux_lemma => kernel_rfl
        · (first | (simp_all [RV, readAct_eq, eqAct_refl, heldAct]; done) | (exfalso; simp_all [readAct_eq, eqAct_refl, heldAct]; done) | (exfalso; simp_all [readAct_eq, eqAct_refl, heldAct]; omega))
        · rfl
      · -- !(((readActI line).isSome) == ((readActS line).isSome)) = false
        have h7 := bh7
        have h7 := notF h7
        have h7 := eq_of_beq h7
        refine SKIP (NEXT (SEQ (REGION [0] rfl (RUN0 1 [] [(0, .v (.string (bs line))), (3, .p 0 0), (4, B ((readActS line).isSome)), (5, .p 1 0), (7, I 1)] ?_ rfl ?_))))
        · as_aux_lemma => kernel_rfl
        refine ENDOPS (NEXT (SEQ (REGION [0, 1, 2, 3] rfl (RUN0 2 [2, 3] [(0, .v (.string (bs line))), (3, .p 0 0), (4, B ((readActS line).isSome)), (5, .p 1 0), (33, .v (.agg #[vi ((optAct (readActI line)).kind), vi (((optAct (readActI line)).req).kind), vi (((optAct (readActI line)).req).id), vi (((optAct (readActI line)).req).cabin), vi (((optAct (readActI line)).req).from'), vi (((optAct (readActI line)).req).size), vi (((optAct (readActI line)).req).tier), vi ((optAct (readActI line)).n), .slice a4 (((optAct (readActI line)).keep).length) c5])), (34, I 1)] ?_ rfl ?_))))
        · as_aux_lemma => kernel_rfl
        refine FACT ((((optAct (readActI line)).keep).length) = ((optAct (readActI line)).keep).length) (fun w hw => (SlO.lenE (hw.own 1 rfl)).1) (fun hln8 => ?_)
        refine OPC (CALL 7 #[.agg #[vi ((optAct (readActI line)).kind), vi (((optAct (readActI line)).req).kind), vi (((optAct (readActI line)).req).id), vi (((optAct (readActI line)).req).cabin), vi (((optAct (readActI line)).req).from'), vi (((optAct (readActI line)).req).size), vi (((optAct (readActI line)).req).tier), vi ((optAct (readActI line)).n), .slice a4 (((optAct (readActI line)).keep).length) c5], vi 1] (some 35) ?_ [1] [slA 3 intL (.slice a4 (((optAct (readActI line)).keep).length) c5) ((optAct (readActI line)).keep)] _ rfl (⟨Unit, fun _ => vi ((markInts ((⟨(optAct (readActI line)).kind, ((optAct (readActI line)).req), (optAct (readActI line)).n, (optAct (readActI line)).keep⟩ : Act)).keep 1).2), fun _ => [slA 3 intL (.slice a4 (((optAct (readActI line)).keep).length) c5) ((markInts ((⟨(optAct (readActI line)).kind, ((optAct (readActI line)).req), (optAct (readActI line)).n, (optAct (readActI line)).keep⟩ : Act)).keep 1).1)]⟩) (fun w hw => markAct_c w (⟨(optAct (readActI line)).kind, ((optAct (readActI line)).req), (optAct (readActI line)).n, (optAct (readActI line)).keep⟩ : Act) a4 (((optAct (readActI line)).keep).length) c5 1) (by rintro _ ⟨⟩; exact Nat.le_of_ble_eq_true rfl) ?_)
        · as_aux_lemma => kernel_rfl
        rintro ⟨⟩
        refine RUN0 1 [] [(0, .v (.string (bs line))), (3, .p 0 0), (4, B ((readActS line).isSome)), (5, .p 1 0), (7, I ((markInts ((⟨(optAct (readActI line)).kind, ((optAct (readActI line)).req), (optAct (readActI line)).n, (optAct (readActI line)).keep⟩ : Act)).keep 1).2))] ?_ rfl ?_
        · as_aux_lemma => kernel_rfl
        refine ENDOPS (NEXT (SEQ (REGION [0] rfl (RUN0 1 [] [(0, .v (.string (bs line))), (3, .p 0 0), (4, B ((readActS line).isSome)), (5, .p 1 0), (7, I ((markInts ((⟨(optAct (readActI line)).kind, ((optAct (readActI line)).req), (optAct (readActI line)).n, (optAct (readActI line)).keep⟩ : Act)).keep 1).2)), (8, I 1)] ?_ rfl ?_))))
        · as_aux_lemma => kernel_rfl
        refine ENDOPS (NEXT (SEQ (REGION [0, 1, 2, 3] rfl (RUN0 2 [2, 3] [(0, .v (.string (bs line))), (3, .p 0 0), (4, B ((readActS line).isSome)), (5, .p 1 0), (7, I ((markInts ((⟨(optAct (readActI line)).kind, ((optAct (readActI line)).req), (optAct (readActI line)).n, (optAct (readActI line)).keep⟩ : Act)).keep 1).2)), (36, .v (.agg #[vi ((optAct (readActI line)).kind), vi (((optAct (readActI line)).req).kind), vi (((optAct (readActI line)).req).id), vi (((optAct (readActI line)).req).cabin), vi (((optAct (readActI line)).req).from'), vi (((optAct (readActI line)).req).size), vi (((optAct (readActI line)).req).tier), vi ((optAct (readActI line)).n), .slice a4 (((optAct (readActI line)).keep).length) c5])), (37, I 1)] ?_ rfl ?_))))
        · as_aux_lemma => kernel_rfl
        refine FACT ((((optAct (readActI line)).keep).length) = ((markInts ((⟨(optAct (readActI line)).kind, ((optAct (readActI line)).req), (optAct (readActI line)).n, (optAct (readActI line)).keep⟩ : Act)).keep 1).1).length) (fun w hw => (SlO.lenE (hw.own 1 rfl)).1) (fun hln9 => ?_)
        refine OPC (CALL 8 #[.agg #[vi ((optAct (readActI line)).kind), vi (((optAct (readActI line)).req).kind), vi (((optAct (readActI line)).req).id), vi (((optAct (readActI line)).req).cabin), vi (((optAct (readActI line)).req).from'), vi (((optAct (readActI line)).req).size), vi (((optAct (readActI line)).req).tier), vi ((optAct (readActI line)).n), .slice a4 (((optAct (readActI line)).keep).length) c5], vi 1] (some 38) ?_ [] [] _ rfl (RV (vi (heldAct (⟨(optAct (readActI line)).kind, ((optAct (readActI line)).req), (optAct (readActI line)).n, (markInts ((⟨(optAct (readActI line)).kind, ((optAct (readActI line)).req), (optAct (readActI line)).n, (optAct (readActI line)).keep⟩ : Act)).keep 1).1⟩ : Act) 1))) (fun w hw => (congrArg (fun z : Nat => Spec Tryd.prog w [] 8 #[.agg #[vi ((optAct (readActI line)).kind), vi (((optAct (readActI line)).req).kind), vi (((optAct (readActI line)).req).id), vi (((optAct (readActI line)).req).cabin), vi (((optAct (readActI line)).req).from'), vi (((optAct (readActI line)).req).size), vi (((optAct (readActI line)).req).tier), vi ((optAct (readActI line)).n), .slice a4 z c5], vi 1] (RV (vi (heldAct (⟨(optAct (readActI line)).kind, ((optAct (readActI line)).req), (optAct (readActI line)).n, (markInts ((⟨(optAct (readActI line)).kind, ((optAct (readActI line)).req), (optAct (readActI line)).n, (optAct (readActI line)).keep⟩ : Act)).keep 1).1⟩ : Act) 1)))) hln9).mpr (heldAct_c w (⟨(optAct (readActI line)).kind, ((optAct (readActI line)).req), (optAct (readActI line)).n, (markInts ((⟨(optAct (readActI line)).kind, ((optAct (readActI line)).req), (optAct (readActI line)).n, (optAct (readActI line)).keep⟩ : Act)).keep 1).1⟩ : Act) a4 c5 (Rd.own (hw.own 1 rfl)) 1)) (by rintro _ ⟨⟩; exact Nat.le_of_ble_eq_true rfl) ?_)
        · as_aux_lemma => kernel_rfl
        rintro ⟨⟩
        refine RUN0 1 [] [(0, .v (.string (bs line))), (3, .p 0 0), (4, B ((readActS line).isSome)), (5, .p 1 0), (7, I ((markInts ((⟨(optAct (readActI line)).kind, ((optAct (readActI line)).req), (optAct (readActI line)).n, (optAct (readActI line)).keep⟩ : Act)).keep 1).2)), (8, I (heldAct (⟨(optAct (readActI line)).kind, ((optAct (readActI line)).req), (optAct (readActI line)).n, (markInts ((⟨(optAct (readActI line)).kind, ((optAct (readActI line)).req), (optAct (readActI line)).n, (optAct (readActI line)).keep⟩ : Act)).keep 1).1⟩ : Act) 1))] ?_ rfl ?_
        · as_aux_lemma => kernel_rfl
        refine ENDOPS (NEXT (SEQ (SEQ (REGION [0, 1] rfl (RUN0 2 [] [(0, .v (.string (bs line))), (3, .p 0 0), (4, B ((readActS line).isSome)), (5, .p 1 0), (7, I ((markInts ((⟨(optAct (readActI line)).kind, ((optAct (readActI line)).req), (optAct (readActI line)).n, (optAct (readActI line)).keep⟩ : Act)).keep 1).2)), (8, I (heldAct (⟨(optAct (readActI line)).kind, ((optAct (readActI line)).req), (optAct (readActI line)).n, (markInts ((⟨(optAct (readActI line)).kind, ((optAct (readActI line)).req), (optAct (readActI line)).n, (optAct (readActI line)).keep⟩ : Act)).keep 1).1⟩ : Act) 1)), (40, B (decide ((heldAct (⟨(optAct (readActI line)).kind, ((optAct (readActI line)).req), (optAct (readActI line)).n, (markInts ((⟨(optAct (readActI line)).kind, ((optAct (readActI line)).req), (optAct (readActI line)).n, (optAct (readActI line)).keep⟩ : Act)).keep 1).1⟩ : Act) 1) < 0)))] ?_ rfl ?_)))))
        · as_aux_lemma => kernel_rfl
        refine ENDOPS (NEXT (IF (decide ((heldAct (⟨(optAct (readActI line)).kind, ((optAct (readActI line)).req), (optAct (readActI line)).n, (markInts ((⟨(optAct (readActI line)).kind, ((optAct (readActI line)).req), (optAct (readActI line)).n, (optAct (readActI line)).keep⟩ : Act)).keep 1).1⟩ : Act) 1) < 0)) ?_ (fun bh10 => ?_) (fun bh10 => ?_)))
        · as_aux_lemma => kernel_rfl
        · -- decide ((heldAct (⟨(optAct (readActI line)).kind, ((optAct (readActI line)).req), (optAct (readActI  = true
          have h10 := bh10
          have h10 := of_decide_eq_true h10
          refine SEQ (REGION [0] rfl (RUN0 1 [] [(2, B false)] ?_ rfl ?_))
          · as_aux_lemma => kernel_rfl
          refine ENDOPS (NEXT (RET (PASS trivial (FIN (.bool false) ?_ () ?_ [] ?_))))
          · as_aux_lemma => kernel_rfl
          · (first | (simp_all [RV, readAct_eq, eqAct_refl, heldAct]; done) | (exfalso; simp_all [readAct_eq, eqAct_refl, heldAct]; done) | (exfalso; simp_all [readAct_eq, eqAct_refl, heldAct]; omega))
          · rfl
        · -- decide ((heldAct (⟨(optAct (readActI line)).kind, ((optAct (readActI line)).req), (optAct (readActI  = false
          have h10 := bh10
          have h10 := of_decide_eq_false h10
          refine SKIP (NEXT (SEQ (SEQ (REGION [0, 1, 2] rfl (RUN0 3 [] [(0, .v (.string (bs line))), (3, .p 0 0), (4, B ((readActS line).isSome)), (5, .p 1 0), (7, I ((markInts ((⟨(optAct (readActI line)).kind, ((optAct (readActI line)).req), (optAct (readActI line)).n, (optAct (readActI line)).keep⟩ : Act)).keep 1).2)), (43, B ((heldAct (⟨(optAct (readActI line)).kind, ((optAct (readActI line)).req), (optAct (readActI line)).n, (markInts ((⟨(optAct (readActI line)).kind, ((optAct (readActI line)).req), (optAct (readActI line)).n, (optAct (readActI line)).keep⟩ : Act)).keep 1).1⟩ : Act) 1) != ((markInts ((⟨(optAct (readActI line)).kind, ((optAct (readActI line)).req), (optAct (readActI line)).n, (optAct (readActI line)).keep⟩ : Act)).keep 1).2)))] ?_ rfl ?_)))))
          · as_aux_lemma => kernel_rfl
          refine ENDOPS (NEXT (IF ((heldAct (⟨(optAct (readActI line)).kind, ((optAct (readActI line)).req), (optAct (readActI line)).n, (markInts ((⟨(optAct (readActI line)).kind, ((optAct (readActI line)).req), (optAct (readActI line)).n, (optAct (readActI line)).keep⟩ : Act)).keep 1).1⟩ : Act) 1) != ((markInts ((⟨(optAct (readActI line)).kind, ((optAct (readActI line)).req), (optAct (readActI line)).n, (optAct (readActI line)).keep⟩ : Act)).keep 1).2)) ?_ (fun bh11 => ?_) (fun bh11 => ?_)))
          · as_aux_lemma => kernel_rfl
          · -- (heldAct (⟨(optAct (readActI line)).kind, ((optAct (readActI line)).req), (optAct (readActI line)).n = true
            have h11 := bh11
            have h11 := bne_iff_ne.1 h11
            refine SEQ (REGION [0] rfl (RUN0 1 [] [(2, B false)] ?_ rfl ?_))
            · as_aux_lemma => kernel_rfl
            refine ENDOPS (NEXT (RET (PASS trivial (FIN (.bool false) ?_ () ?_ [] ?_))))
            · as_aux_lemma => kernel_rfl
            · (first | (simp_all [RV, readAct_eq, eqAct_refl, heldAct]; done) | (exfalso; simp_all [readAct_eq, eqAct_refl, heldAct]; done) | (exfalso; simp_all [readAct_eq, eqAct_refl, heldAct]; omega))
            · rfl
          · -- (heldAct (⟨(optAct (readActI line)).kind, ((optAct (readActI line)).req), (optAct (readActI line)).n = false
            have h11 := bh11
            have h11 := bneF h11
            refine SKIP (NEXT (SEQ (REGION [0, 1, 2, 3, 4, 5, 6, 7] rfl (RUN0 1 [1, 2, 3, 4, 5, 6, 7] [(3, .p 0 0), (4, B ((readActS line).isSome)), (5, .p 1 0), (7, I ((markInts ((⟨(optAct (readActI line)).kind, ((optAct (readActI line)).req), (optAct (readActI line)).n, (optAct (readActI line)).keep⟩ : Act)).keep 1).2)), (45, .v (.string (bs line)))] ?_ rfl ?_))))
            · as_aux_lemma => kernel_rfl
            refine OPC (CALL 5 #[.string (bs line)] (some 46) ?_ [] [] _ rfl (⟨HH, fun p => .tuple #[.agg #[vi ((optAct (readActI line)).kind), vi (((optAct (readActI line)).req).kind), vi (((optAct (readActI line)).req).id), vi (((optAct (readActI line)).req).cabin), vi (((optAct (readActI line)).req).from'), vi (((optAct (readActI line)).req).size), vi (((optAct (readActI line)).req).tier), vi ((optAct (readActI line)).n), .slice p.1 (((optAct (readActI line)).keep).length) p.2], .bool ((readActI line).isSome)], fun p => [slA 3 intL (.slice p.1 ((optAct (readActI line)).keep).length p.2) ((optAct (readActI line)).keep)]⟩) (fun w hw => iReadAct_c w line (by first | assumption | omega) (htab.fr hw.fr) (hmx.fr hw.fr)) (by rintro _ ⟨⟩; exact Nat.le_of_ble_eq_true rfl) ?_)
            · as_aux_lemma => kernel_rfl
            rintro ⟨a12, c13⟩
            refine RUN 6 [] [(3, .p 0 0), (4, B ((readActS line).isSome)), (5, .p 1 0), (7, I ((markInts ((⟨(optAct (readActI line)).kind, ((optAct (readActI line)).req), (optAct (readActI line)).n, (optAct (readActI line)).keep⟩ : Act)).keep 1).2)), (9, .p 2 0), (10, B ((readActI line).isSome))] [(26, [vi ((optAct (readActS line)).kind), vi (((optAct (readActS line)).req).kind), vi (((optAct (readActS line)).req).id), vi (((optAct (readActS line)).req).cabin), vi (((optAct (readActS line)).req).from'), vi (((optAct (readActS line)).req).size), vi (((optAct (readActS line)).req).tier), vi ((optAct (readActS line)).n), .slice a2 (((optAct (readActS line)).keep).length) c3]), (26, [vi ((optAct (readActI line)).kind), vi (((optAct (readActI line)).req).kind), vi (((optAct (readActI line)).req).id), vi (((optAct (readActI line)).req).cabin), vi (((optAct (readActI line)).req).from'), vi (((optAct (readActI line)).req).size), vi (((optAct (readActI line)).req).tier), vi ((optAct (readActI line)).n), .slice a4 (((optAct (readActI line)).keep).length) c5]), (26, [vi ((optAct (readActI line)).kind), vi (((optAct (readActI line)).req).kind), vi (((optAct (readActI line)).req).id), vi (((optAct (readActI line)).req).cabin), vi (((optAct (readActI line)).req).from'), vi (((optAct (readActI line)).req).size), vi (((optAct (readActI line)).req).tier), vi ((optAct (readActI line)).n), .slice a12 (((optAct (readActI line)).keep).length) c13])] ?_ rfl ?_
            · as_aux_lemma => kernel_rfl
            refine ENDOPS (NEXT (SEQ (SEQ (REGION [0, 1, 2, 3, 4, 5, 6, 7, 8] rfl (RUN0 2 [2, 3, 4, 5, 6, 7, 8] [(4, B ((readActS line).isSome)), (5, .p 1 0), (7, I ((markInts ((⟨(optAct (readActI line)).kind, ((optAct (readActI line)).req), (optAct (readActI line)).n, (optAct (readActI line)).keep⟩ : Act)).keep 1).2)), (10, B ((readActI line).isSome)), (49, .v (.agg #[vi ((optAct (readActI line)).kind), vi (((optAct (readActI line)).req).kind), vi (((optAct (readActI line)).req).id), vi (((optAct (readActI line)).req).cabin), vi (((optAct (readActI line)).req).from'), vi (((optAct (readActI line)).req).size), vi (((optAct (readActI line)).req).tier), vi ((optAct (readActI line)).n), .slice a12 (((optAct (readActI line)).keep).length) c13])), (50, .v (.agg #[vi ((optAct (readActS line)).kind), vi (((optAct (readActS line)).req).kind), vi (((optAct (readActS line)).req).id), vi (((optAct (readActS line)).req).cabin), vi (((optAct (readActS line)).req).from'), vi (((optAct (readActS line)).req).size), vi (((optAct (readActS line)).req).tier), vi ((optAct (readActS line)).n), .slice a2 (((optAct (readActS line)).keep).length) c3]))] ?_ rfl ?_)))))
            · as_aux_lemma => kernel_rfl
            refine OPC (CALL 6 #[.agg #[vi ((optAct (readActI line)).kind), vi (((optAct (readActI line)).req).kind), vi (((optAct (readActI line)).req).id), vi (((optAct (readActI line)).req).cabin), vi (((optAct (readActI line)).req).from'), vi (((optAct (readActI line)).req).size), vi (((optAct (readActI line)).req).tier), vi ((optAct (readActI line)).n), .slice a12 (((optAct (readActI line)).keep).length) c13], .agg #[vi ((optAct (readActS line)).kind), vi (((optAct (readActS line)).req).kind), vi (((optAct (readActS line)).req).id), vi (((optAct (readActS line)).req).cabin), vi (((optAct (readActS line)).req).from'), vi (((optAct (readActS line)).req).size), vi (((optAct (readActS line)).req).tier), vi ((optAct (readActS line)).n), .slice a2 (((optAct (readActS line)).keep).length) c3]] (some 51) ?_ [] [] _ rfl (RV (.bool (eqAct (⟨(optAct (readActI line)).kind, ((optAct (readActI line)).req), (optAct (readActI line)).n, (optAct (readActI line)).keep⟩ : Act) (⟨(optAct (readActS line)).kind, ((optAct (readActS line)).req), (optAct (readActS line)).n, (optAct (readActS line)).keep⟩ : Act)))) (fun w hw => eqAct_c w (⟨(optAct (readActI line)).kind, ((optAct (readActI line)).req), (optAct (readActI line)).n, (optAct (readActI line)).keep⟩ : Act) a12 c13 (Rd.own (hw.own 2 rfl)) (⟨(optAct (readActS line)).kind, ((optAct (readActS line)).req), (optAct (readActS line)).n, (optAct (readActS line)).keep⟩ : Act) a2 c3 (Rd.own (hw.own 0 rfl))) (by rintro _ ⟨⟩; exact Nat.le_of_ble_eq_true rfl) ?_)
            · as_aux_lemma => kernel_rfl
            rintro ⟨⟩
            refine RUN0 2 [5, 6, 7, 8] [(4, B ((readActS line).isSome)), (5, .p 1 0), (7, I ((markInts ((⟨(optAct (readActI line)).kind, ((optAct (readActI line)).req), (optAct (readActI line)).n, (optAct (readActI line)).keep⟩ : Act)).keep 1).2)), (10, B ((readActI line).isSome)), (53, B (!(eqAct (⟨(optAct (readActI line)).kind, ((optAct (readActI line)).req), (optAct (readActI line)).n, (optAct (readActI line)).keep⟩ : Act) (⟨(optAct (readActS line)).kind, ((optAct (readActS line)).req), (optAct (readActS line)).n, (optAct (readActS line)).keep⟩ : Act))))] ?_ rfl ?_
            · as_aux_lemma => kernel_rfl
            refine SPLIT (d := 53) (!(eqAct (⟨(optAct (readActI line)).kind, ((optAct (readActI line)).req), (optAct (readActI line)).n, (optAct (readActI line)).keep⟩ : Act) (⟨(optAct (readActS line)).kind, ((optAct (readActS line)).req), (optAct (readActS line)).n, (optAct (readActS line)).keep⟩ : Act))) ?_ (fun bh14 => ?_) (fun bh14 => ?_)
            · as_aux_lemma => kernel_rfl
            · exact Bool.noConfusion (bh6.symm.trans bh14)
            · -- !(eqAct (⟨(optAct (readActI line)).kind, ((optAct (readActI line)).req), (optAct (readActI line)).n, = false
              have h14 := bh14
              have h14 := notF h14
              refine RUN0 4 [] [(5, .p 1 0), (7, I ((markInts ((⟨(optAct (readActI line)).kind, ((optAct (readActI line)).req), (optAct (readActI line)).n, (optAct (readActI line)).keep⟩ : Act)).keep 1).2)), (57, B (!(((readActI line).isSome) == ((readActS line).isSome))))] ?_ rfl ?_
              · as_aux_lemma => kernel_rfl
              refine ENDOPS (NEXT (IF (!(((readActI line).isSome) == ((readActS line).isSome))) ?_ (fun bh15 => ?_) (fun bh15 => ?_)))
              · as_aux_lemma => kernel_rfl
              · exact Bool.noConfusion (bh7.symm.trans bh15)
              · -- !(((readActI line).isSome) == ((readActS line).isSome)) = false
                have h15 := bh15
                have h15 := notF h15
                have h15 := eq_of_beq h15
                refine SKIP (NEXT (SEQ (REGION [0] rfl (RUN0 1 [] [(5, .p 1 0), (7, I ((markInts ((⟨(optAct (readActI line)).kind, ((optAct (readActI line)).req), (optAct (readActI line)).n, (optAct (readActI line)).keep⟩ : Act)).keep 1).2)), (8, I 1)] ?_ rfl ?_))))
                · as_aux_lemma => kernel_rfl
                refine ENDOPS (NEXT (SEQ (REGION [0, 1, 2, 3] rfl (RUN0 2 [2, 3] [(7, I ((markInts ((⟨(optAct (readActI line)).kind, ((optAct (readActI line)).req), (optAct (readActI line)).n, (optAct (readActI line)).keep⟩ : Act)).keep 1).2)), (58, .v (.agg #[vi ((optAct (readActI line)).kind), vi (((optAct (readActI line)).req).kind), vi (((optAct (readActI line)).req).id), vi (((optAct (readActI line)).req).cabin), vi (((optAct (readActI line)).req).from'), vi (((optAct (readActI line)).req).size), vi (((optAct (readActI line)).req).tier), vi ((optAct (readActI line)).n), .slice a4 (((optAct (readActI line)).keep).length) c5])), (59, I 1)] ?_ rfl ?_))))
                · as_aux_lemma => kernel_rfl
                refine FACT ((((optAct (readActI line)).keep).length) = ((markInts ((⟨(optAct (readActI line)).kind, ((optAct (readActI line)).req), (optAct (readActI line)).n, (optAct (readActI line)).keep⟩ : Act)).keep 1).1).length) (fun w hw => (SlO.lenE (hw.own 1 rfl)).1) (fun hln16 => ?_)
                refine OPC (CALL 8 #[.agg #[vi ((optAct (readActI line)).kind), vi (((optAct (readActI line)).req).kind), vi (((optAct (readActI line)).req).id), vi (((optAct (readActI line)).req).cabin), vi (((optAct (readActI line)).req).from'), vi (((optAct (readActI line)).req).size), vi (((optAct (readActI line)).req).tier), vi ((optAct (readActI line)).n), .slice a4 (((optAct (readActI line)).keep).length) c5], vi 1] (some 60) ?_ [] [] _ rfl (RV (vi (heldAct (⟨(optAct (readActI line)).kind, ((optAct (readActI line)).req), (optAct (readActI line)).n, (markInts ((⟨(optAct (readActI line)).kind, ((optAct (readActI line)).req), (optAct (readActI line)).n, (optAct (readActI line)).keep⟩ : Act)).keep 1).1⟩ : Act) 1))) (fun w hw => (congrArg (fun z : Nat => Spec Tryd.prog w [] 8 #[.agg #[vi ((optAct (readActI line)).kind), vi (((optAct (readActI line)).req).kind), vi (((optAct (readActI line)).req).id), vi (((optAct (readActI line)).req).cabin), vi (((optAct (readActI line)).req).from'), vi (((optAct (readActI line)).req).size), vi (((optAct (readActI line)).req).tier), vi ((optAct (readActI line)).n), .slice a4 z c5], vi 1] (RV (vi (heldAct (⟨(optAct (readActI line)).kind, ((optAct (readActI line)).req), (optAct (readActI line)).n, (markInts ((⟨(optAct (readActI line)).kind, ((optAct (readActI line)).req), (optAct (readActI line)).n, (optAct (readActI line)).keep⟩ : Act)).keep 1).1⟩ : Act) 1)))) hln16).mpr (heldAct_c w (⟨(optAct (readActI line)).kind, ((optAct (readActI line)).req), (optAct (readActI line)).n, (markInts ((⟨(optAct (readActI line)).kind, ((optAct (readActI line)).req), (optAct (readActI line)).n, (optAct (readActI line)).keep⟩ : Act)).keep 1).1⟩ : Act) a4 c5 (Rd.own (hw.own 1 rfl)) 1)) (by rintro _ ⟨⟩; exact Nat.le_of_ble_eq_true rfl) ?_)
                · as_aux_lemma => kernel_rfl
                rintro ⟨⟩
                refine RUN0 1 [] [(7, I ((markInts ((⟨(optAct (readActI line)).kind, ((optAct (readActI line)).req), (optAct (readActI line)).n, (optAct (readActI line)).keep⟩ : Act)).keep 1).2)), (8, I (heldAct (⟨(optAct (readActI line)).kind, ((optAct (readActI line)).req), (optAct (readActI line)).n, (markInts ((⟨(optAct (readActI line)).kind, ((optAct (readActI line)).req), (optAct (readActI line)).n, (optAct (readActI line)).keep⟩ : Act)).keep 1).1⟩ : Act) 1))] ?_ rfl ?_
                · as_aux_lemma => kernel_rfl
                refine ENDOPS (NEXT (SEQ (SEQ (REGION [0, 1] rfl (RUN0 2 [] [(7, I ((markInts ((⟨(optAct (readActI line)).kind, ((optAct (readActI line)).req), (optAct (readActI line)).n, (optAct (readActI line)).keep⟩ : Act)).keep 1).2)), (8, I (heldAct (⟨(optAct (readActI line)).kind, ((optAct (readActI line)).req), (optAct (readActI line)).n, (markInts ((⟨(optAct (readActI line)).kind, ((optAct (readActI line)).req), (optAct (readActI line)).n, (optAct (readActI line)).keep⟩ : Act)).keep 1).1⟩ : Act) 1)), (62, B (decide ((heldAct (⟨(optAct (readActI line)).kind, ((optAct (readActI line)).req), (optAct (readActI line)).n, (markInts ((⟨(optAct (readActI line)).kind, ((optAct (readActI line)).req), (optAct (readActI line)).n, (optAct (readActI line)).keep⟩ : Act)).keep 1).1⟩ : Act) 1) < 0)))] ?_ rfl ?_)))))
                · as_aux_lemma => kernel_rfl
                refine ENDOPS (NEXT (IF (decide ((heldAct (⟨(optAct (readActI line)).kind, ((optAct (readActI line)).req), (optAct (readActI line)).n, (markInts ((⟨(optAct (readActI line)).kind, ((optAct (readActI line)).req), (optAct (readActI line)).n, (optAct (readActI line)).keep⟩ : Act)).keep 1).1⟩ : Act) 1) < 0)) ?_ (fun bh17 => ?_) (fun bh17 => ?_)))
                · as_aux_lemma => kernel_rfl
                · exact Bool.noConfusion (bh10.symm.trans bh17)
                · -- decide ((heldAct (⟨(optAct (readActI line)).kind, ((optAct (readActI line)).req), (optAct (readActI  = false
                  have h17 := bh17
                  have h17 := of_decide_eq_false h17
                  refine SKIP (NEXT (SEQ (SEQ (REGION [0, 1, 2] rfl (RUN0 3 [] [(65, B ((heldAct (⟨(optAct (readActI line)).kind, ((optAct (readActI line)).req), (optAct (readActI line)).n, (markInts ((⟨(optAct (readActI line)).kind, ((optAct (readActI line)).req), (optAct (readActI line)).n, (optAct (readActI line)).keep⟩ : Act)).keep 1).1⟩ : Act) 1) != ((markInts ((⟨(optAct (readActI line)).kind, ((optAct (readActI line)).req), (optAct (readActI line)).n, (optAct (readActI line)).keep⟩ : Act)).keep 1).2)))] ?_ rfl ?_)))))
                  · as_aux_lemma => kernel_rfl
                  refine ENDOPS (NEXT (IF ((heldAct (⟨(optAct (readActI line)).kind, ((optAct (readActI line)).req), (optAct (readActI line)).n, (markInts ((⟨(optAct (readActI line)).kind, ((optAct (readActI line)).req), (optAct (readActI line)).n, (optAct (readActI line)).keep⟩ : Act)).keep 1).1⟩ : Act) 1) != ((markInts ((⟨(optAct (readActI line)).kind, ((optAct (readActI line)).req), (optAct (readActI line)).n, (optAct (readActI line)).keep⟩ : Act)).keep 1).2)) ?_ (fun bh18 => ?_) (fun bh18 => ?_)))
                  · as_aux_lemma => kernel_rfl
                  · exact Bool.noConfusion (bh11.symm.trans bh18)
                  · -- (heldAct (⟨(optAct (readActI line)).kind, ((optAct (readActI line)).req), (optAct (readActI line)).n = false
                    have h18 := bh18
                    have h18 := bneF h18
                    refine SKIP (NEXT (SEQ (REGION [0] rfl (RUN0 1 [] [(2, B true)] ?_ rfl ?_))))
                    · as_aux_lemma => kernel_rfl
                    refine ENDOPS (NEXT (RET (FIN (.bool true) ?_ () ?_ [] ?_)))
                    · as_aux_lemma => kernel_rfl
                    · (first | (simp_all [RV, readAct_eq, eqAct_refl, heldAct]; done) | (exfalso; simp_all [readAct_eq, eqAct_refl, heldAct]; done) | (exfalso; simp_all [readAct_eq, eqAct_refl, heldAct]; omega))
                    · rfl

end SX
end Go.Proofs.YtpdijcbgdalphabDoor
