/- Walks, printed by program. -/
import Derived.Test.YtpdijcbgdalphabDoorV3
namespace Go.Proofs.YtpdijcbgdalphabDoor
namespace SX
open Go Go.RowKit
set_option linter.unusedVariables false
set_option linter.unusedSimpArgs false
set_option maxRecDepth 10000
theorem iReadAct_c (W : World) (line : List UInt8) (hl : line.length ≤ 1048576) (htab : Tab Tryd.prog W) (hmx : MaxL Tryd.prog W) : Spec Tryd.prog W [] 5 #[.string (bs line)] (⟨HH, fun p => .tuple #[.agg #[vi ((optAct (readActI line)).kind), vi (((optAct (readActI line)).req).kind), vi (((optAct (readActI line)).req).id), vi (((optAct (readActI line)).req).cabin), vi (((optAct (readActI line)).req).from'), vi (((optAct (readActI line)).req).size), vi (((optAct (readActI line)).req).tier), vi ((optAct (readActI line)).n), .slice p.1 (((optAct (readActI line)).keep).length) p.2], .bool ((readActI line).isSome)], fun p => [slA 3 intL (.slice p.1 ((optAct (readActI line)).keep).length p.2) ((optAct (readActI line)).keep)]⟩) := by
  refine ENTER0 (N := 74) (vs := [.string (bs line)]) Tryd.func5 rfl rfl (Nat.le_of_ble_eq_true rfl) ?_
  refine SEQ (REGION [0, 1] rfl (RUN 2 [] [(0, .v (.string (bs line))), (2, .p 0 0)] [(26, [vi 0, vi 0, vi 0, vi 0, vi 0, vi 0, vi 0, vi 0, .slice none 0 0])] ?_ rfl ?_))
  · as_aux_lemma => kernel_rfl
  refine ENDOPS (NEXT (SEQ (REGION [0, 1, 2, 3, 4, 5, 6, 7, 8] rfl (RUN0 1 [1, 2, 3, 4, 5, 6, 7, 8] [(0, .v (.string (bs line))), (2, .p 0 0), (13, .v (.string (bs line)))] ?_ rfl ?_))))
  · as_aux_lemma => kernel_rfl
  refine OPC (CALL 13 #[.string (bs line), .string (bs ([32]))] (some 14) ?_ [] [] _ rfl (RV (.tuple #[.string (bs ((Lib.cut line ([32])).1)), .string (bs ((Lib.cut line ([32])).2.1)), .bool ((Lib.cut line ([32])).2.2)])) (fun w hw => cut_c w line ([32]) (by first | assumption | omega) (hmx.fr hw.fr)) (by rintro _ ⟨⟩; exact Nat.le_of_ble_eq_true rfl) ?_)
  · as_aux_lemma => kernel_rfl
  rintro ⟨⟩
  have hr1 := cut_len line
  refine RUN0 7 [] [(0, .v (.string (bs line))), (2, .p 0 0), (4, .v (.string (bs ((Lib.cut line ([32])).1)))), (5, .v (.string (bs ((Lib.cut line ([32])).2.1)))), (6, B ((Lib.cut line ([32])).2.2))] ?_ rfl ?_
  · as_aux_lemma => kernel_rfl
  refine ENDOPS (NEXT (SEQ (REGION [0] rfl (RUN 1 [] [(0, .v (.string (bs line))), (2, .p 0 0), (4, .v (.string (bs ((Lib.cut line ([32])).1)))), (5, .v (.string (bs ((Lib.cut line ([32])).2.1)))), (6, B ((Lib.cut line ([32])).2.2)), (7, .p 1 0)] [(26, [vi 0, vi 0, vi 0, vi 0, vi 0, vi 0, vi 0, vi 0, .slice none 0 0]), (26, [vi 0, vi 0, vi 0, vi 0, vi 0, vi 0, vi 0, vi 0, .slice none 0 0])] ?_ rfl ?_))))
  · as_aux_lemma => kernel_rfl
  refine ENDOPS (NEXT (SEQ (SEQ (REGION [0] rfl (RUN0 1 [] [(0, .v (.string (bs line))), (2, .p 0 0), (5, .v (.string (bs ((Lib.cut line ([32])).2.1)))), (6, B ((Lib.cut line ([32])).2.2)), (7, .p 1 0), (18, .v (.string (bs ((Lib.cut line ([32])).1))))] ?_ rfl ?_)))))
  · as_aux_lemma => kernel_rfl
  refine ENDOPS (NEXT (BLOCK (SEQ (REGION [0, 1] rfl (OPC (RUNV (.binOp .eql 9 (.tmp 18) (.const (.string (bs ([108, 97, 121])))) 9) 20 4 ?_ (Nat.le_of_ble_eq_true rfl) (.bool (((Lib.cut line ([32])).1) == ([108, 97, 121]))) (runs_seql (a := (Lib.cut line ([32])).1) (b := [108, 97, 121]) ?_ ?_) ?_))))))
  · as_aux_lemma => kernel_rfl
  · as_aux_lemma => kernel_rfl
  · as_aux_lemma => kernel_rfl
  refine RUN0 1 [] [(0, .v (.string (bs line))), (2, .p 0 0), (5, .v (.string (bs ((Lib.cut line ([32])).2.1)))), (6, B ((Lib.cut line ([32])).2.2)), (7, .p 1 0), (18, .v (.string (bs ((Lib.cut line ([32])).1)))), (19, B (((Lib.cut line ([32])).1) == ([108, 97, 121])))] ?_ rfl ?_
  · as_aux_lemma => kernel_rfl
  refine ENDOPS (NEXT (IF (((Lib.cut line ([32])).1) == ([108, 97, 121])) ?_ (fun bh2 => ?_) (fun bh2 => ?_)))
  · as_aux_lemma => kernel_rfl
  · -- ((Lib.cut line ([32])).1) == ([108, 97, 121]) = true
    have h2 := bh2
    have h2 := eq_of_beq h2
    refine SEQ (REGION [0, 1] rfl (RUN 2 [] [(0, .v (.string (bs line))), (2, .p 0 0), (5, .v (.string (bs ((Lib.cut line ([32])).2.1)))), (7, .p 1 0)] [(26, [vi 0, vi 0, vi 0, vi 0, vi 0, vi 0, vi 0, vi 0, .slice none 0 0]), (26, [vi 1, vi 0, vi 0, vi 0, vi 0, vi 0, vi 0, vi 0, .slice none 0 0])] ?_ rfl ?_))
    · as_aux_lemma => kernel_rfl
    refine ENDOPS (NEXT (REGION [0, 1, 2, 3, 4, 5, 6] rfl (RUN0 1 [1, 2, 3, 4, 5, 6] [(0, .v (.string (bs line))), (2, .p 0 0), (7, .p 1 0), (23, .v (.string (bs ((Lib.cut line ([32])).2.1))))] ?_ rfl ?_)))
    · as_aux_lemma => kernel_rfl
    refine OPC (CALL 14 #[.string (bs ((Lib.cut line ([32])).2.1))] (some 24) ?_ [] [] _ rfl (RV (.tuple #[.agg #[vi ((optReq (readI ((Lib.cut line ([32])).2.1))).kind), vi ((optReq (readI ((Lib.cut line ([32])).2.1))).id), vi ((optReq (readI ((Lib.cut line ([32])).2.1))).cabin), vi ((optReq (readI ((Lib.cut line ([32])).2.1))).from'), vi ((optReq (readI ((Lib.cut line ([32])).2.1))).size), vi ((optReq (readI ((Lib.cut line ([32])).2.1))).tier)], .bool ((readI ((Lib.cut line ([32])).2.1)).isSome)])) (fun w hw => iReadReq_c w ((Lib.cut line ([32])).2.1) (by first | assumption | omega) (htab.fr hw.fr) (hmx.fr hw.fr)) (by rintro _ ⟨⟩; exact Nat.le_of_ble_eq_true rfl) ?_)
    · as_aux_lemma => kernel_rfl
    rintro ⟨⟩
    refine RUN 5 [] [(0, .v (.string (bs line))), (2, .p 0 0), (7, .p 1 0)] [(26, [vi 0, vi 0, vi 0, vi 0, vi 0, vi 0, vi 0, vi 0, .slice none 0 0]), (26, [vi 1, vi ((optReq (readI ((Lib.cut line ([32])).2.1))).kind), vi ((optReq (readI ((Lib.cut line ([32])).2.1))).id), vi ((optReq (readI ((Lib.cut line ([32])).2.1))).cabin), vi ((optReq (readI ((Lib.cut line ([32])).2.1))).from'), vi ((optReq (readI ((Lib.cut line ([32])).2.1))).size), vi ((optReq (readI ((Lib.cut line ([32])).2.1))).tier), vi 0, .slice none 0 0])] ?_ rfl ?_
    · as_aux_lemma => kernel_rfl
    refine ENDOPS (OUTN (NEXT (SEQ (SEQ (REGION [0, 1, 2, 3, 4, 5, 6, 7, 8] rfl (RUN0 1 [1, 2, 3, 4, 5, 6, 7, 8] [(0, .v (.string (bs line))), (2, .p 0 0), (7, .p 1 0), (63, .v (.agg #[vi 1, vi ((optReq (readI ((Lib.cut line ([32])).2.1))).kind), vi ((optReq (readI ((Lib.cut line ([32])).2.1))).id), vi ((optReq (readI ((Lib.cut line ([32])).2.1))).cabin), vi ((optReq (readI ((Lib.cut line ([32])).2.1))).from'), vi ((optReq (readI ((Lib.cut line ([32])).2.1))).size), vi ((optReq (readI ((Lib.cut line ([32])).2.1))).tier), vi 0, .slice none 0 0]))] ?_ rfl ?_))))))
    · as_aux_lemma => kernel_rfl
    refine OPC (CALL 17 #[.agg #[vi 1, vi ((optReq (readI ((Lib.cut line ([32])).2.1))).kind), vi ((optReq (readI ((Lib.cut line ([32])).2.1))).id), vi ((optReq (readI ((Lib.cut line ([32])).2.1))).cabin), vi ((optReq (readI ((Lib.cut line ([32])).2.1))).from'), vi ((optReq (readI ((Lib.cut line ([32])).2.1))).size), vi ((optReq (readI ((Lib.cut line ([32])).2.1))).tier), vi 0, .slice none 0 0]] (some 64) ?_ [] [] _ rfl (RV (.bool (actOk (⟨1, (optReq (readI ((Lib.cut line ([32])).2.1))), 0, []⟩ : Act)))) (fun w hw => iActOk_c w (⟨1, (optReq (readI ((Lib.cut line ([32])).2.1))), 0, []⟩ : Act) none 0 (Rd.nil _ _)) (by rintro _ ⟨⟩; exact Nat.le_of_ble_eq_true rfl) ?_)
    · as_aux_lemma => kernel_rfl
    rintro ⟨⟩
    refine RUN0 2 [4, 5, 6, 7, 8] [(0, .v (.string (bs line))), (2, .p 0 0), (7, .p 1 0), (66, B (!(actOk (⟨1, (optReq (readI ((Lib.cut line ([32])).2.1))), 0, []⟩ : Act))))] ?_ rfl ?_
    · as_aux_lemma => kernel_rfl
    refine SPLIT (d := 66) (!(actOk (⟨1, (optReq (readI ((Lib.cut line ([32])).2.1))), 0, []⟩ : Act))) ?_ (fun bh3 => ?_) (fun bh3 => ?_)
    · as_aux_lemma => kernel_rfl
    · -- !(actOk (⟨1, (optReq (readI ((Lib.cut line ([32])).2.1))), 0, []⟩ : Act)) = true
      have h3 := bh3
      have h3 := notT h3
      refine RUN0 5 [] [(2, .p 0 0), (7, .p 1 0), (71, B true)] ?_ rfl ?_
      · as_aux_lemma => kernel_rfl
      refine ENDOPS (NEXT (IFT ?_ ?_))
      · as_aux_lemma => kernel_rfl
      refine SEQ (REGION [0, 1, 2] rfl (RUN0 3 [] [(2, .p 0 0), (3, B false)] ?_ rfl ?_))
      · as_aux_lemma => kernel_rfl
      refine ENDOPS (NEXT (RET (PASS trivial (NIL 3 intL ?_))))
      have efin : readActI line = none := by 
        have hx : actI line = (⟨1, (optReq (readI ((Lib.cut line ([32])).2.1))), 0, []⟩ : Act) := by (rw [actI, if_pos h2] <;> rfl)
        rw [readActI, hx]; exact if_neg (fun e => (by first | exact absurd e.2 (by assumption) | (have h1 := e.1; exact absurd h1 (by simp only [Bool.not_eq_true]; assumption))))
      refine FIN (.tuple #[.agg #[vi 0, vi 0, vi 0, vi 0, vi 0, vi 0, vi 0, vi 0, .slice none 0 0], .bool false]) ?_ (none, 0) ?_ [0] ?_
      · as_aux_lemma => kernel_rfl
      · (rw [efin] <;> rfl)
      · (rw [efin] <;> rfl)
    · -- !(actOk (⟨1, (optReq (readI ((Lib.cut line ([32])).2.1))), 0, []⟩ : Act)) = false
      have h3 := bh3
      have h3 := notF h3
      refine RUN0 1 [5, 6, 7, 8] [(0, .v (.string (bs line))), (2, .p 0 0), (7, .p 1 0), (66, B false), (67, .v (.agg #[vi 1, vi ((optReq (readI ((Lib.cut line ([32])).2.1))).kind), vi ((optReq (readI ((Lib.cut line ([32])).2.1))).id), vi ((optReq (readI ((Lib.cut line ([32])).2.1))).cabin), vi ((optReq (readI ((Lib.cut line ([32])).2.1))).from'), vi ((optReq (readI ((Lib.cut line ([32])).2.1))).size), vi ((optReq (readI ((Lib.cut line ([32])).2.1))).tier), vi 0, .slice none 0 0]))] ?_ rfl ?_
      · as_aux_lemma => kernel_rfl
      refine OPC (CALL 18 #[.agg #[vi 1, vi ((optReq (readI ((Lib.cut line ([32])).2.1))).kind), vi ((optReq (readI ((Lib.cut line ([32])).2.1))).id), vi ((optReq (readI ((Lib.cut line ([32])).2.1))).cabin), vi ((optReq (readI ((Lib.cut line ([32])).2.1))).from'), vi ((optReq (readI ((Lib.cut line ([32])).2.1))).size), vi ((optReq (readI ((Lib.cut line ([32])).2.1))).tier), vi 0, .slice none 0 0]] (some 68) ?_ [] [] _ rfl (RV (.string (bs (actLine (⟨1, (optReq (readI ((Lib.cut line ([32])).2.1))), 0, []⟩ : Act))))) (fun w hw => iActLine_c w (⟨1, (optReq (readI ((Lib.cut line ([32])).2.1))), 0, []⟩ : Act) none 0 (Rd.nil _ _) (htab.fr hw.fr)) (by rintro _ ⟨⟩; exact Nat.le_of_ble_eq_true rfl) ?_)
      · as_aux_lemma => kernel_rfl
      rintro ⟨⟩
      refine RUN0 1 [7, 8] [(2, .p 0 0), (7, .p 1 0), (66, B false), (68, .v (.string (bs (actLine (⟨1, (optReq (readI ((Lib.cut line ([32])).2.1))), 0, []⟩ : Act))))), (69, .v (.string (bs line)))] ?_ rfl ?_
      · as_aux_lemma => kernel_rfl
      refine OPC (RUNV (.binOp .neq 9 (.tmp 68) (.tmp 69) 9) 70 4 ?_ (Nat.le_of_ble_eq_true rfl) (.bool (!((actLine (⟨1, (optReq (readI ((Lib.cut line ([32])).2.1))), 0, []⟩ : Act)) == line))) (runs_sneq (a := actLine (⟨1, (optReq (readI ((Lib.cut line ([32])).2.1))), 0, []⟩ : Act)) (b := line) ?_ ?_) ?_)
      · as_aux_lemma => kernel_rfl
      · as_aux_lemma => kernel_rfl
      · as_aux_lemma => kernel_rfl
      refine RUN0 1 [] [(2, .p 0 0), (7, .p 1 0), (71, B (!((actLine (⟨1, (optReq (readI ((Lib.cut line ([32])).2.1))), 0, []⟩ : Act)) == line)))] ?_ rfl ?_
      · as_aux_lemma => kernel_rfl
      refine ENDOPS (NEXT (IF (!((actLine (⟨1, (optReq (readI ((Lib.cut line ([32])).2.1))), 0, []⟩ : Act)) == line)) ?_ (fun bh4 => ?_) (fun bh4 => ?_)))
      · as_aux_lemma => kernel_rfl
      · -- !((actLine (⟨1, (optReq (readI ((Lib.cut line ([32])).2.1))), 0, []⟩ : Act)) == line) = true
        have h4 := bh4
        have h4 := notT h4
        have h4 := ne_of_beq_false h4
        refine SEQ (REGION [0, 1, 2] rfl (RUN0 3 [] [(2, .p 0 0), (3, B false)] ?_ rfl ?_))
        · as_aux_lemma => kernel_rfl
        refine ENDOPS (NEXT (RET (PASS trivial (NIL 3 intL ?_))))
        have efin : readActI line = none := by 
          have hx : actI line = (⟨1, (optReq (readI ((Lib.cut line ([32])).2.1))), 0, []⟩ : Act) := by (rw [actI, if_pos h2] <;> rfl)
          rw [readActI, hx]; exact if_neg (fun e => (by first | exact absurd e.2 (by assumption) | (have h1 := e.1; exact absurd h1 (by simp only [Bool.not_eq_true]; assumption))))
        refine FIN (.tuple #[.agg #[vi 0, vi 0, vi 0, vi 0, vi 0, vi 0, vi 0, vi 0, .slice none 0 0], .bool false]) ?_ (none, 0) ?_ [0] ?_
        · as_aux_lemma => kernel_rfl
        · (rw [efin] <;> rfl)
        · (rw [efin] <;> rfl)
      · -- !((actLine (⟨1, (optReq (readI ((Lib.cut line ([32])).2.1))), 0, []⟩ : Act)) == line) = false
        have h4 := bh4
        have h4 := notF h4
        have h4 := eq_of_beq h4
        refine SKIP (NEXT (SEQ (REGION [0, 1, 2] rfl (RUN 3 [] [(2, .p 0 0), (3, B true)] [(26, [vi 1, vi ((optReq (readI ((Lib.cut line ([32])).2.1))).kind), vi ((optReq (readI ((Lib.cut line ([32])).2.1))).id), vi ((optReq (readI ((Lib.cut line ([32])).2.1))).cabin), vi ((optReq (readI ((Lib.cut line ([32])).2.1))).from'), vi ((optReq (readI ((Lib.cut line ([32])).2.1))).size), vi ((optReq (readI ((Lib.cut line ([32])).2.1))).tier), vi 0, .slice none 0 0]), (26, [vi 1, vi ((optReq (readI ((Lib.cut line ([32])).2.1))).kind), vi ((optReq (readI ((Lib.cut line ([32])).2.1))).id), vi ((optReq (readI ((Lib.cut line ([32])).2.1))).cabin), vi ((optReq (readI ((Lib.cut line ([32])).2.1))).from'), vi ((optReq (readI ((Lib.cut line ([32])).2.1))).size), vi ((optReq (readI ((Lib.cut line ([32])).2.1))).tier), vi 0, .slice none 0 0])] ?_ rfl ?_))))
        · as_aux_lemma => kernel_rfl
        refine ENDOPS (NEXT (RET (NIL 3 intL ?_)))
        have efin : readActI line = some (⟨1, (optReq (readI ((Lib.cut line ([32])).2.1))), 0, []⟩ : Act) := by 
          have hx : actI line = (⟨1, (optReq (readI ((Lib.cut line ([32])).2.1))), 0, []⟩ : Act) := by (rw [actI, if_pos h2] <;> rfl)
          rw [readActI, hx]; exact if_pos ⟨by assumption, by assumption⟩
        refine FIN (.tuple #[.agg #[vi 1, vi ((optReq (readI ((Lib.cut line ([32])).2.1))).kind), vi ((optReq (readI ((Lib.cut line ([32])).2.1))).id), vi ((optReq (readI ((Lib.cut line ([32])).2.1))).cabin), vi ((optReq (readI ((Lib.cut line ([32])).2.1))).from'), vi ((optReq (readI ((Lib.cut line ([32])).2.1))).size), vi ((optReq (readI ((Lib.cut line ([32])).2.1))).tier), vi 0, .slice none 0 0], .bool true]) ?_ (none, 0) ?_ [0] ?_
        · as_aux_lemma => kernel_rfl
        · (rw [efin] <;> rfl)
        · (rw [efin] <;> rfl)
  · -- ((Lib.cut line ([32])).1) == ([108, 97, 121]) = false
    have h2 := bh2
    have h2 := ne_of_beq_false h2
    refine SEQ (REGION [0, 1] rfl (OPC (RUNV (.binOp .eql 9 (.tmp 18) (.const (.string (bs ([115, 101, 97, 108])))) 9) 29 4 ?_ (Nat.le_of_ble_eq_true rfl) (.bool (((Lib.cut line ([32])).1) == ([115, 101, 97, 108]))) (runs_seql (a := (Lib.cut line ([32])).1) (b := [115, 101, 97, 108]) ?_ ?_) ?_)))
    · as_aux_lemma => kernel_rfl
    · as_aux_lemma => kernel_rfl
    · as_aux_lemma => kernel_rfl
    refine RUN0 1 [] [(0, .v (.string (bs line))), (2, .p 0 0), (5, .v (.string (bs ((Lib.cut line ([32])).2.1)))), (6, B ((Lib.cut line ([32])).2.2)), (7, .p 1 0), (18, .v (.string (bs ((Lib.cut line ([32])).1)))), (28, B (((Lib.cut line ([32])).1) == ([115, 101, 97, 108])))] ?_ rfl ?_
    · as_aux_lemma => kernel_rfl
    refine ENDOPS (NEXT (IF (((Lib.cut line ([32])).1) == ([115, 101, 97, 108])) ?_ (fun bh5 => ?_) (fun bh5 => ?_)))
    · as_aux_lemma => kernel_rfl
    · -- ((Lib.cut line ([32])).1) == ([115, 101, 97, 108]) = true
      have h5 := bh5
      have h5 := eq_of_beq h5
      refine REGION [0, 1] rfl (RUN 2 [] [(0, .v (.string (bs line))), (2, .p 0 0), (7, .p 1 0)] [(26, [vi 0, vi 0, vi 0, vi 0, vi 0, vi 0, vi 0, vi 0, .slice none 0 0]), (26, [vi 2, vi 0, vi 0, vi 0, vi 0, vi 0, vi 0, vi 0, .slice none 0 0])] ?_ rfl ?_)
      · as_aux_lemma => kernel_rfl
      refine ENDOPS (OUTN (NEXT (SEQ (SEQ (REGION [0, 1, 2, 3, 4, 5, 6, 7, 8] rfl (RUN0 1 [1, 2, 3, 4, 5, 6, 7, 8] [(0, .v (.string (bs line))), (2, .p 0 0), (7, .p 1 0), (63, .v (.agg #[vi 2, vi 0, vi 0, vi 0, vi 0, vi 0, vi 0, vi 0, .slice none 0 0]))] ?_ rfl ?_))))))
      · as_aux_lemma => kernel_rfl
      refine OPC (CALL 17 #[.agg #[vi 2, vi 0, vi 0, vi 0, vi 0, vi 0, vi 0, vi 0, .slice none 0 0]] (some 64) ?_ [] [] _ rfl (RV (.bool (actOk (⟨2, (⟨0, 0, 0, 0, 0, 0⟩ : Req), 0, []⟩ : Act)))) (fun w hw => iActOk_c w (⟨2, (⟨0, 0, 0, 0, 0, 0⟩ : Req), 0, []⟩ : Act) none 0 (Rd.nil _ _)) (by rintro _ ⟨⟩; exact Nat.le_of_ble_eq_true rfl) ?_)
      · as_aux_lemma => kernel_rfl
      rintro ⟨⟩
      refine RUN0 2 [4, 5, 6, 7, 8] [(0, .v (.string (bs line))), (2, .p 0 0), (7, .p 1 0), (66, B (!(actOk (⟨2, (⟨0, 0, 0, 0, 0, 0⟩ : Req), 0, []⟩ : Act))))] ?_ rfl ?_
      · as_aux_lemma => kernel_rfl
      refine SPLIT (d := 66) (!(actOk (⟨2, (⟨0, 0, 0, 0, 0, 0⟩ : Req), 0, []⟩ : Act))) ?_ (fun bh6 => ?_) (fun bh6 => ?_)
      · as_aux_lemma => kernel_rfl
      · -- !(actOk (⟨2, (⟨0, 0, 0, 0, 0, 0⟩ : Req), 0, []⟩ : Act)) = true
        have h6 := bh6
        have h6 := notT h6
        refine RUN0 5 [] [(2, .p 0 0), (7, .p 1 0), (71, B true)] ?_ rfl ?_
        · as_aux_lemma => kernel_rfl
        refine ENDOPS (NEXT (IFT ?_ ?_))
        · as_aux_lemma => kernel_rfl
        refine SEQ (REGION [0, 1, 2] rfl (RUN0 3 [] [(2, .p 0 0), (3, B false)] ?_ rfl ?_))
        · as_aux_lemma => kernel_rfl
        refine ENDOPS (NEXT (RET (PASS trivial (NIL 3 intL ?_))))
        have efin : readActI line = none := by 
          have hx : actI line = (⟨2, (⟨0, 0, 0, 0, 0, 0⟩ : Req), 0, []⟩ : Act) := by (rw [actI, if_neg h2, if_pos h5] <;> rfl)
          rw [readActI, hx]; exact if_neg (fun e => (by first | exact absurd e.2 (by assumption) | (have h1 := e.1; exact absurd h1 (by simp only [Bool.not_eq_true]; assumption))))
        refine FIN (.tuple #[.agg #[vi 0, vi 0, vi 0, vi 0, vi 0, vi 0, vi 0, vi 0, .slice none 0 0], .bool false]) ?_ (none, 0) ?_ [0] ?_
        · as_aux_lemma => kernel_rfl
        · (rw [efin] <;> rfl)
        · (rw [efin] <;> rfl)
      · -- !(actOk (⟨2, (⟨0, 0, 0, 0, 0, 0⟩ : Req), 0, []⟩ : Act)) = false
        have h6 := bh6
        have h6 := notF h6
        refine RUN0 1 [5, 6, 7, 8] [(0, .v (.string (bs line))), (2, .p 0 0), (7, .p 1 0), (66, B false), (67, .v (.agg #[vi 2, vi 0, vi 0, vi 0, vi 0, vi 0, vi 0, vi 0, .slice none 0 0]))] ?_ rfl ?_
        · as_aux_lemma => kernel_rfl
        refine OPC (CALL 18 #[.agg #[vi 2, vi 0, vi 0, vi 0, vi 0, vi 0, vi 0, vi 0, .slice none 0 0]] (some 68) ?_ [] [] _ rfl (RV (.string (bs (actLine (⟨2, (⟨0, 0, 0, 0, 0, 0⟩ : Req), 0, []⟩ : Act))))) (fun w hw => iActLine_c w (⟨2, (⟨0, 0, 0, 0, 0, 0⟩ : Req), 0, []⟩ : Act) none 0 (Rd.nil _ _) (htab.fr hw.fr)) (by rintro _ ⟨⟩; exact Nat.le_of_ble_eq_true rfl) ?_)
        · as_aux_lemma => kernel_rfl
        rintro ⟨⟩
        refine RUN0 1 [7, 8] [(2, .p 0 0), (7, .p 1 0), (66, B false), (68, .v (.string (bs (actLine (⟨2, (⟨0, 0, 0, 0, 0, 0⟩ : Req), 0, []⟩ : Act))))), (69, .v (.string (bs line)))] ?_ rfl ?_
        · as_aux_lemma => kernel_rfl
        refine OPC (RUNV (.binOp .neq 9 (.tmp 68) (.tmp 69) 9) 70 4 ?_ (Nat.le_of_ble_eq_true rfl) (.bool (!((actLine (⟨2, (⟨0, 0, 0, 0, 0, 0⟩ : Req), 0, []⟩ : Act)) == line))) (runs_sneq (a := actLine (⟨2, (⟨0, 0, 0, 0, 0, 0⟩ : Req), 0, []⟩ : Act)) (b := line) ?_ ?_) ?_)
        · as_aux_lemma => kernel_rfl
        · as_aux_lemma => kernel_rfl
        · as_aux_lemma => kernel_rfl
        refine RUN0 1 [] [(2, .p 0 0), (7, .p 1 0), (71, B (!((actLine (⟨2, (⟨0, 0, 0, 0, 0, 0⟩ : Req), 0, []⟩ : Act)) == line)))] ?_ rfl ?_
        · as_aux_lemma => kernel_rfl
        refine ENDOPS (NEXT (IF (!((actLine (⟨2, (⟨0, 0, 0, 0, 0, 0⟩ : Req), 0, []⟩ : Act)) == line)) ?_ (fun bh7 => ?_) (fun bh7 => ?_)))
        · as_aux_lemma => kernel_rfl
        · -- !((actLine (⟨2, (⟨0, 0, 0, 0, 0, 0⟩ : Req), 0, []⟩ : Act)) == line) = true
          have h7 := bh7
          have h7 := notT h7
          have h7 := ne_of_beq_false h7
          refine SEQ (REGION [0, 1, 2] rfl (RUN0 3 [] [(2, .p 0 0), (3, B false)] ?_ rfl ?_))
          · as_aux_lemma => kernel_rfl
          refine ENDOPS (NEXT (RET (PASS trivial (NIL 3 intL ?_))))
          have efin : readActI line = none := by 
            have hx : actI line = (⟨2, (⟨0, 0, 0, 0, 0, 0⟩ : Req), 0, []⟩ : Act) := by (rw [actI, if_neg h2, if_pos h5] <;> rfl)
            rw [readActI, hx]; exact if_neg (fun e => (by first | exact absurd e.2 (by assumption) | (have h1 := e.1; exact absurd h1 (by simp only [Bool.not_eq_true]; assumption))))
          refine FIN (.tuple #[.agg #[vi 0, vi 0, vi 0, vi 0, vi 0, vi 0, vi 0, vi 0, .slice none 0 0], .bool false]) ?_ (none, 0) ?_ [0] ?_
          · as_aux_lemma => kernel_rfl
          · (rw [efin] <;> rfl)
          · (rw [efin] <;> rfl)
        · -- !((actLine (⟨2, (⟨0, 0, 0, 0, 0, 0⟩ : Req), 0, []⟩ : Act)) == line) = false
          have h7 := bh7
          have h7 := notF h7
          have h7 := eq_of_beq h7
          refine SKIP (NEXT (SEQ (REGION [0, 1, 2] rfl (RUN 3 [] [(2, .p 0 0), (3, B true)] [(26, [vi 2, vi 0, vi 0, vi 0, vi 0, vi 0, vi 0, vi 0, .slice none 0 0]), (26, [vi 2, vi 0, vi 0, vi 0, vi 0, vi 0, vi 0, vi 0, .slice none 0 0])] ?_ rfl ?_))))
          · as_aux_lemma => kernel_rfl
          refine ENDOPS (NEXT (RET (NIL 3 intL ?_)))
          have efin : readActI line = some (⟨2, (⟨0, 0, 0, 0, 0, 0⟩ : Req), 0, []⟩ : Act) := by 
            have hx : actI line = (⟨2, (⟨0, 0, 0, 0, 0, 0⟩ : Req), 0, []⟩ : Act) := by (rw [actI, if_neg h2, if_pos h5] <;> rfl)
            rw [readActI, hx]; exact if_pos ⟨by assumption, by assumption⟩
          refine FIN (.tuple #[.agg #[vi 2, vi 0, vi 0, vi 0, vi 0, vi 0, vi 0, vi 0, .slice none 0 0], .bool true]) ?_ (none, 0) ?_ [0] ?_
          · as_aux_lemma => kernel_rfl
          · (rw [efin] <;> rfl)
          · (rw [efin] <;> rfl)
    · -- ((Lib.cut line ([32])).1) == ([115, 101, 97, 108]) = false
      have h5 := bh5
      have h5 := ne_of_beq_false h5
      refine SEQ (REGION [0, 1] rfl (OPC (RUNV (.binOp .eql 9 (.tmp 18) (.const (.string (bs ([109, 97, 114, 107])))) 9) 32 4 ?_ (Nat.le_of_ble_eq_true rfl) (.bool (((Lib.cut line ([32])).1) == ([109, 97, 114, 107]))) (runs_seql (a := (Lib.cut line ([32])).1) (b := [109, 97, 114, 107]) ?_ ?_) ?_)))
      · as_aux_lemma => kernel_rfl
      · as_aux_lemma => kernel_rfl
      · as_aux_lemma => kernel_rfl
      refine RUN0 1 [] [(0, .v (.string (bs line))), (2, .p 0 0), (5, .v (.string (bs ((Lib.cut line ([32])).2.1)))), (6, B ((Lib.cut line ([32])).2.2)), (7, .p 1 0), (18, .v (.string (bs ((Lib.cut line ([32])).1)))), (31, B (((Lib.cut line ([32])).1) == ([109, 97, 114, 107])))] ?_ rfl ?_
      · as_aux_lemma => kernel_rfl
      refine ENDOPS (NEXT (IF (((Lib.cut line ([32])).1) == ([109, 97, 114, 107])) ?_ (fun bh8 => ?_) (fun bh8 => ?_)))
      · as_aux_lemma => kernel_rfl
      · -- ((Lib.cut line ([32])).1) == ([109, 97, 114, 107]) = true
        have h8 := bh8
        have h8 := eq_of_beq h8
        refine SEQ (REGION [0, 1] rfl (RUN 2 [] [(0, .v (.string (bs line))), (2, .p 0 0), (5, .v (.string (bs ((Lib.cut line ([32])).2.1)))), (7, .p 1 0)] [(26, [vi 0, vi 0, vi 0, vi 0, vi 0, vi 0, vi 0, vi 0, .slice none 0 0]), (26, [vi 3, vi 0, vi 0, vi 0, vi 0, vi 0, vi 0, vi 0, .slice none 0 0])] ?_ rfl ?_))
        · as_aux_lemma => kernel_rfl
        refine ENDOPS (NEXT (REGION [0, 1, 2, 3, 4, 5, 6] rfl (RUN0 1 [1, 2, 3, 4, 5, 6] [(0, .v (.string (bs line))), (2, .p 0 0), (7, .p 1 0), (35, .v (.string (bs ((Lib.cut line ([32])).2.1))))] ?_ rfl ?_)))
        · as_aux_lemma => kernel_rfl
        refine OPC (CALL 15 #[.string (bs ((Lib.cut line ([32])).2.1))] (some 36) ?_ [] [] _ rfl (RV (.tuple #[vi (((number ((Lib.cut line ([32])).2.1)).getD 0 : Nat) : Int), .bool ((number ((Lib.cut line ([32])).2.1)).isSome)])) (fun w hw => iNumber_c w ((Lib.cut line ([32])).2.1) (htab.fr hw.fr)) (by rintro _ ⟨⟩; exact Nat.le_of_ble_eq_true rfl) ?_)
        · as_aux_lemma => kernel_rfl
        rintro ⟨⟩
        refine RUN 5 [] [(0, .v (.string (bs line))), (2, .p 0 0), (7, .p 1 0)] [(26, [vi 0, vi 0, vi 0, vi 0, vi 0, vi 0, vi 0, vi 0, .slice none 0 0]), (26, [vi 3, vi 0, vi 0, vi 0, vi 0, vi 0, vi 0, vi (((number ((Lib.cut line ([32])).2.1)).getD 0 : Nat) : Int), .slice none 0 0])] ?_ rfl ?_
        · as_aux_lemma => kernel_rfl
        refine ENDOPS (OUTN (NEXT (SEQ (SEQ (REGION [0, 1, 2, 3, 4, 5, 6, 7, 8] rfl (RUN0 1 [1, 2, 3, 4, 5, 6, 7, 8] [(0, .v (.string (bs line))), (2, .p 0 0), (7, .p 1 0), (63, .v (.agg #[vi 3, vi 0, vi 0, vi 0, vi 0, vi 0, vi 0, vi (((number ((Lib.cut line ([32])).2.1)).getD 0 : Nat) : Int), .slice none 0 0]))] ?_ rfl ?_))))))
        · as_aux_lemma => kernel_rfl
        refine OPC (CALL 17 #[.agg #[vi 3, vi 0, vi 0, vi 0, vi 0, vi 0, vi 0, vi (((number ((Lib.cut line ([32])).2.1)).getD 0 : Nat) : Int), .slice none 0 0]] (some 64) ?_ [] [] _ rfl (RV (.bool (actOk (⟨3, (⟨0, 0, 0, 0, 0, 0⟩ : Req), (((number ((Lib.cut line ([32])).2.1)).getD 0 : Nat) : Int), []⟩ : Act)))) (fun w hw => iActOk_c w (⟨3, (⟨0, 0, 0, 0, 0, 0⟩ : Req), (((number ((Lib.cut line ([32])).2.1)).getD 0 : Nat) : Int), []⟩ : Act) none 0 (Rd.nil _ _)) (by rintro _ ⟨⟩; exact Nat.le_of_ble_eq_true rfl) ?_)
        · as_aux_lemma => kernel_rfl
        rintro ⟨⟩
        refine RUN0 2 [4, 5, 6, 7, 8] [(0, .v (.string (bs line))), (2, .p 0 0), (7, .p 1 0), (66, B (!(actOk (⟨3, (⟨0, 0, 0, 0, 0, 0⟩ : Req), (((number ((Lib.cut line ([32])).2.1)).getD 0 : Nat) : Int), []⟩ : Act))))] ?_ rfl ?_
        · as_aux_lemma => kernel_rfl
        refine SPLIT (d := 66) (!(actOk (⟨3, (⟨0, 0, 0, 0, 0, 0⟩ : Req), (((number ((Lib.cut line ([32])).2.1)).getD 0 : Nat) : Int), []⟩ : Act))) ?_ (fun bh9 => ?_) (fun bh9 => ?_)
        · as_aux_lemma => kernel_rfl
        · -- !(actOk (⟨3, (⟨0, 0, 0, 0, 0, 0⟩ : Req), (((number ((Lib.cut line ([32])).2.1)).getD 0 : Nat) : Int) = true
          have h9 := bh9
          have h9 := notT h9
          refine RUN0 5 [] [(2, .p 0 0), (7, .p 1 0), (71, B true)] ?_ rfl ?_
          · as_aux_lemma => kernel_rfl
          refine ENDOPS (NEXT (IFT ?_ ?_))
          · as_aux_lemma => kernel_rfl
          refine SEQ (REGION [0, 1, 2] rfl (RUN0 3 [] [(2, .p 0 0), (3, B false)] ?_ rfl ?_))
          · as_aux_lemma => kernel_rfl
          refine ENDOPS (NEXT (RET (PASS trivial (NIL 3 intL ?_))))
          have efin : readActI line = none := by 
            have hx : actI line = (⟨3, (⟨0, 0, 0, 0, 0, 0⟩ : Req), (((number ((Lib.cut line ([32])).2.1)).getD 0 : Nat) : Int), []⟩ : Act) := by (rw [actI, if_neg h2, if_neg h5, if_pos h8] <;> rfl)
            rw [readActI, hx]; exact if_neg (fun e => (by first | exact absurd e.2 (by assumption) | (have h1 := e.1; exact absurd h1 (by simp only [Bool.not_eq_true]; assumption))))
          refine FIN (.tuple #[.agg #[vi 0, vi 0, vi 0, vi 0, vi 0, vi 0, vi 0, vi 0, .slice none 0 0], .bool false]) ?_ (none, 0) ?_ [0] ?_
          · as_aux_lemma => kernel_rfl
          · (rw [efin] <;> rfl)
          · (rw [efin] <;> rfl)
        · -- !(actOk (⟨3, (⟨0, 0, 0, 0, 0, 0⟩ : Req), (((number ((Lib.cut line ([32])).2.1)).getD 0 : Nat) : Int) = false
          have h9 := bh9
          have h9 := notF h9
          refine RUN0 1 [5, 6, 7, 8] [(0, .v (.string (bs line))), (2, .p 0 0), (7, .p 1 0), (66, B false), (67, .v (.agg #[vi 3, vi 0, vi 0, vi 0, vi 0, vi 0, vi 0, vi (((number ((Lib.cut line ([32])).2.1)).getD 0 : Nat) : Int), .slice none 0 0]))] ?_ rfl ?_
          · as_aux_lemma => kernel_rfl
          refine OPC (CALL 18 #[.agg #[vi 3, vi 0, vi 0, vi 0, vi 0, vi 0, vi 0, vi (((number ((Lib.cut line ([32])).2.1)).getD 0 : Nat) : Int), .slice none 0 0]] (some 68) ?_ [] [] _ rfl (RV (.string (bs (actLine (⟨3, (⟨0, 0, 0, 0, 0, 0⟩ : Req), (((number ((Lib.cut line ([32])).2.1)).getD 0 : Nat) : Int), []⟩ : Act))))) (fun w hw => iActLine_c w (⟨3, (⟨0, 0, 0, 0, 0, 0⟩ : Req), (((number ((Lib.cut line ([32])).2.1)).getD 0 : Nat) : Int), []⟩ : Act) none 0 (Rd.nil _ _) (htab.fr hw.fr)) (by rintro _ ⟨⟩; exact Nat.le_of_ble_eq_true rfl) ?_)
          · as_aux_lemma => kernel_rfl
          rintro ⟨⟩
          refine RUN0 1 [7, 8] [(2, .p 0 0), (7, .p 1 0), (66, B false), (68, .v (.string (bs (actLine (⟨3, (⟨0, 0, 0, 0, 0, 0⟩ : Req), (((number ((Lib.cut line ([32])).2.1)).getD 0 : Nat) : Int), []⟩ : Act))))), (69, .v (.string (bs line)))] ?_ rfl ?_
          · as_aux_lemma => kernel_rfl
          refine OPC (RUNV (.binOp .neq 9 (.tmp 68) (.tmp 69) 9) 70 4 ?_ (Nat.le_of_ble_eq_true rfl) (.bool (!((actLine (⟨3, (⟨0, 0, 0, 0, 0, 0⟩ : Req), (((number ((Lib.cut line ([32])).2.1)).getD 0 : Nat) : Int), []⟩ : Act)) == line))) (runs_sneq (a := actLine (⟨3, (⟨0, 0, 0, 0, 0, 0⟩ : Req), (((number ((Lib.cut line ([32])).2.1)).getD 0 : Nat) : Int), []⟩ : Act)) (b := line) ?_ ?_) ?_)
          · as_aux_lemma => kernel_rfl
          · as_aux_lemma => kernel_rfl
          · as_aux_lemma => kernel_rfl
          refine RUN0 1 [] [(2, .p 0 0), (7, .p 1 0), (71, B (!((actLine (⟨3, (⟨0, 0, 0, 0, 0, 0⟩ : Req), (((number ((Lib.cut line ([32])).2.1)).getD 0 : Nat) : Int), []⟩ : Act)) == line)))] ?_ rfl ?_
          · as_aux_lemma => kernel_rfl
          refine ENDOPS (NEXT (IF (!((actLine (⟨3, (⟨0, 0, 0, 0, 0, 0⟩ : Req), (((number ((Lib.cut line ([32])).2.1)).getD 0 : Nat) : Int), []⟩ : Act)) == line)) ?_ (fun bh10 => ?_) (fun bh10 => ?_)))
          · as_aux_lemma => kernel_rfl
          · -- !((actLine (⟨3, (⟨0, 0, 0, 0, 0, 0⟩ : Req), (((number ((Lib.cut line ([32])).2.1)).getD 0 : Nat) : I = true
            have h10 := bh10
            have h10 := notT h10
            have h10 := ne_of_beq_false h10
            refine SEQ (REGION [0, 1, 2] rfl (RUN0 3 [] [(2, .p 0 0), (3, B false)] ?_ rfl ?_))
            · as_aux_lemma => kernel_rfl
            refine ENDOPS (NEXT (RET (PASS trivial (NIL 3 intL ?_))))
            have efin : readActI line = none := by 
              have hx : actI line = (⟨3, (⟨0, 0, 0, 0, 0, 0⟩ : Req), (((number ((Lib.cut line ([32])).2.1)).getD 0 : Nat) : Int), []⟩ : Act) := by (rw [actI, if_neg h2, if_neg h5, if_pos h8] <;> rfl)
              rw [readActI, hx]; exact if_neg (fun e => (by first | exact absurd e.2 (by assumption) | (have h1 := e.1; exact absurd h1 (by simp only [Bool.not_eq_true]; assumption))))
            refine FIN (.tuple #[.agg #[vi 0, vi 0, vi 0, vi 0, vi 0, vi 0, vi 0, vi 0, .slice none 0 0], .bool false]) ?_ (none, 0) ?_ [0] ?_
            · as_aux_lemma => kernel_rfl
            · (rw [efin] <;> rfl)
            · (rw [efin] <;> rfl)
          · -- !((actLine (⟨3, (⟨0, 0, 0, 0, 0, 0⟩ : Req), (((number ((Lib.cut line ([32])).2.1)).getD 0 : Nat) : I = false
            have h10 := bh10
            have h10 := notF h10
            have h10 := eq_of_beq h10
            refine SKIP (NEXT (SEQ (REGION [0, 1, 2] rfl (RUN 3 [] [(2, .p 0 0), (3, B true)] [(26, [vi 3, vi 0, vi 0, vi 0, vi 0, vi 0, vi 0, vi (((number ((Lib.cut line ([32])).2.1)).getD 0 : Nat) : Int), .slice none 0 0]), (26, [vi 3, vi 0, vi 0, vi 0, vi 0, vi 0, vi 0, vi (((number ((Lib.cut line ([32])).2.1)).getD 0 : Nat) : Int), .slice none 0 0])] ?_ rfl ?_))))
            · as_aux_lemma => kernel_rfl
            refine ENDOPS (NEXT (RET (NIL 3 intL ?_)))
            have efin : readActI line = some (⟨3, (⟨0, 0, 0, 0, 0, 0⟩ : Req), (((number ((Lib.cut line ([32])).2.1)).getD 0 : Nat) : Int), []⟩ : Act) := by 
              have hx : actI line = (⟨3, (⟨0, 0, 0, 0, 0, 0⟩ : Req), (((number ((Lib.cut line ([32])).2.1)).getD 0 : Nat) : Int), []⟩ : Act) := by (rw [actI, if_neg h2, if_neg h5, if_pos h8] <;> rfl)
              rw [readActI, hx]; exact if_pos ⟨by assumption, by assumption⟩
            refine FIN (.tuple #[.agg #[vi 3, vi 0, vi 0, vi 0, vi 0, vi 0, vi 0, vi (((number ((Lib.cut line ([32])).2.1)).getD 0 : Nat) : Int), .slice none 0 0], .bool true]) ?_ (none, 0) ?_ [0] ?_
            · as_aux_lemma => kernel_rfl
            · (rw [efin] <;> rfl)
            · (rw [efin] <;> rfl)
      · -- ((Lib.cut line ([32])).1) == ([109, 97, 114, 107]) = false
        have h8 := bh8
        have h8 := ne_of_beq_false h8
        refine SEQ (REGION [0, 1] rfl (OPC (RUNV (.binOp .eql 9 (.tmp 18) (.const (.string (bs ([102, 97, 108, 108])))) 9) 41 4 ?_ (Nat.le_of_ble_eq_true rfl) (.bool (((Lib.cut line ([32])).1) == ([102, 97, 108, 108]))) (runs_seql (a := (Lib.cut line ([32])).1) (b := [102, 97, 108, 108]) ?_ ?_) ?_)))
        · as_aux_lemma => kernel_rfl
        · as_aux_lemma => kernel_rfl
        · as_aux_lemma => kernel_rfl
        refine RUN0 1 [] [(0, .v (.string (bs line))), (2, .p 0 0), (5, .v (.string (bs ((Lib.cut line ([32])).2.1)))), (6, B ((Lib.cut line ([32])).2.2)), (7, .p 1 0), (40, B (((Lib.cut line ([32])).1) == ([102, 97, 108, 108])))] ?_ rfl ?_
        · as_aux_lemma => kernel_rfl
        refine ENDOPS (NEXT (IF (((Lib.cut line ([32])).1) == ([102, 97, 108, 108])) ?_ (fun bh11 => ?_) (fun bh11 => ?_)))
        · as_aux_lemma => kernel_rfl
        · -- ((Lib.cut line ([32])).1) == ([102, 97, 108, 108]) = true
          have h11 := bh11
          have h11 := eq_of_beq h11
          refine SEQ (REGION [0, 1] rfl (RUN 2 [] [(0, .v (.string (bs line))), (2, .p 0 0), (5, .v (.string (bs ((Lib.cut line ([32])).2.1)))), (6, B ((Lib.cut line ([32])).2.2)), (7, .p 1 0)] [(26, [vi 0, vi 0, vi 0, vi 0, vi 0, vi 0, vi 0, vi 0, .slice none 0 0]), (26, [vi 4, vi 0, vi 0, vi 0, vi 0, vi 0, vi 0, vi 0, .slice none 0 0])] ?_ rfl ?_))
          · as_aux_lemma => kernel_rfl
          refine ENDOPS (NEXT (SEQ (REGION [0] rfl (RUN0 1 [] [(0, .v (.string (bs line))), (2, .p 0 0), (5, .v (.string (bs ((Lib.cut line ([32])).2.1)))), (7, .p 1 0), (43, B ((Lib.cut line ([32])).2.2))] ?_ rfl ?_))))
          · as_aux_lemma => kernel_rfl
          refine ENDOPS (NEXT (IF ((Lib.cut line ([32])).2.2) ?_ (fun bh12 => ?_) (fun bh12 => ?_)))
          · as_aux_lemma => kernel_rfl
          · -- (Lib.cut line ([32])).2.2 = true
            have h12 := bh12
            refine SEQ (REGION [0, 1, 2, 3] rfl (RUN0 1 [1, 2, 3] [(0, .v (.string (bs line))), (2, .p 0 0), (7, .p 1 0), (44, .v (.string (bs ((Lib.cut line ([32])).2.1))))] ?_ rfl ?_))
            · as_aux_lemma => kernel_rfl
            refine OPC (CALL 16 #[.string (bs ((Lib.cut line ([32])).2.1)), .int .u8 32] (some 45) ?_ [] [] _ rfl (⟨HH, fun p => .slice p.1 ((parts ((Lib.cut line ([32])).2.1) 32).length) p.2, fun p => [slA 9 strL (.slice p.1 (parts ((Lib.cut line ([32])).2.1) 32).length p.2) (parts ((Lib.cut line ([32])).2.1) 32)]⟩) (fun w hw => iParts_c w ((Lib.cut line ([32])).2.1) 32 (by first | assumption | omega) (hmx.fr hw.fr)) (by rintro _ ⟨⟩; exact Nat.le_of_ble_eq_true rfl) ?_)
            · as_aux_lemma => kernel_rfl
            rintro ⟨a13, c14⟩
            have hr15 := parts_len ((Lib.cut line ([32])).2.1) 32
            refine RUN0 2 [] [(0, .v (.string (bs line))), (2, .p 0 0), (7, .p 1 0), (45, .v (.slice a13 ((parts ((Lib.cut line ([32])).2.1) 32).length) c14)), (46, I (((parts ((Lib.cut line ([32])).2.1) 32).length : Nat) : Int)), (47, I 0)] ?_ rfl ?_
            · as_aux_lemma => kernel_rfl
            refine ENDOPS (NEXT (BLOCK (NIL 3 intL ?_)))
            refine LOOP (ι := Nat × (List (List UInt8)) × (Option Addr) × Nat × (List Int)) (fun j => [(0, .v (.string (bs line))), (2, .p 0 0), (7, .p 1 0), (45, .v (.slice a13 ((parts ((Lib.cut line ([32])).2.1) 32).length) c14)), (46, I (((parts ((Lib.cut line ([32])).2.1) 32).length : Nat) : Int)), (47, I (j.1 : Int))]) (fun j => [(26, [vi 0, vi 0, vi 0, vi 0, vi 0, vi 0, vi 0, vi 0, .slice none 0 0]), (26, [vi 4, vi 0, vi 0, vi 0, vi 0, vi 0, vi 0, vi 0, .slice j.2.2.1 j.2.2.2.2.length j.2.2.2.1])]) (fun j => [slA 9 strL (.slice a13 (parts ((Lib.cut line ([32])).2.1) 32).length c14) (parts ((Lib.cut line ([32])).2.1) 32), slA 3 intL (.slice j.2.2.1 j.2.2.2.2.length j.2.2.2.1) j.2.2.2.2]) (fun j => j.1 + j.2.1.length = (parts ((Lib.cut line ([32])).2.1) 32).length ∧ (parts ((Lib.cut line ([32])).2.1) 32).drop j.1 = j.2.1 ∧ (parts ((Lib.cut line ([32])).2.1) 32).map numZ = j.2.2.2.2 ++ j.2.1.map numZ ∧ j.2.2.2.2.length = j.1) (fun j => j.2.1.length) (0, (parts ((Lib.cut line ([32])).2.1) 32), none, 0, []) [0, 2, 7, 45, 46, 47] ⟨by simp, rfl, rfl, rfl⟩ ?_ rfl rfl ?_
            · as_aux_lemma => kernel_rfl
            rintro ⟨k, ys, oa, oc, out⟩ ⟨hk, hd, hv0, hv1⟩
            dsimp only at hk hd hv0 hv1
            refine SEQ (REGION [0] rfl (RUN0 1 [] [(0, .v (.string (bs line))), (2, .p 0 0), (7, .p 1 0), (45, .v (.slice a13 ((parts ((Lib.cut line ([32])).2.1) 32).length) c14)), (46, I (((parts ((Lib.cut line ([32])).2.1) 32).length : Nat) : Int)), (47, I (k : Int)), (48, B (decide ((k : Int) < (((parts ((Lib.cut line ([32])).2.1) 32).length : Nat) : Int))))] ?_ rfl ?_))
            · as_aux_lemma => kernel_rfl
            refine ENDOPS (NEXT (SEQ (IF (decide ((k : Int) < (((parts ((Lib.cut line ([32])).2.1) 32).length : Nat) : Int))) ?_ (fun bh16 => ?_) (fun bh16 => ?_))))
            · as_aux_lemma => kernel_rfl
            · -- decide ((k : Int) < (((parts ((Lib.cut line ([32])).2.1) 32).length : Nat) : Int)) = true
              have h16 := bh16
              have h16 := of_decide_eq_true h16
              obtain ⟨y17, ys18, rfl, hx_y17, hd_y17, hl_y17⟩ := drop_cons hd hk (by omega)
              refine SKIP (NEXT (SEQ (BLOCK (SEQ (REGION [0, 1, 2] rfl (FACT (a13.isSome = true) (fun w hw => SlO.isS (hw.own 0 rfl) (by omega)) (fun hs19 => ?_)))))))
              refine OPC (INDEX 32 (.tmp 45) (.tmp 47) 49 0 ?_ (Nat.le_of_ble_eq_true rfl) a13 ((parts ((Lib.cut line ([32])).2.1) 32).length) c14 .i64 (k : Int) 9 1 ?_ ?_ ?_ ?_ hs19 (by omega) (by omega) ?_)
              · as_aux_lemma => kernel_rfl
              · as_aux_lemma => kernel_rfl
              · as_aux_lemma => kernel_rfl
              · as_aux_lemma => kernel_rfl
              · as_aux_lemma => kernel_rfl
              refine OPC (LOADE 9 (.tmp 49) 50 9 ?_ (Nat.le_of_ble_eq_true rfl) a13 (k * 1) 0 [.string (bs y17)] (.string (bs y17)) ?_ (fun w hw => (Rd.own (hw.own 0 rfl)).flat hx_y17) ?_ ?_)
              · as_aux_lemma => kernel_rfl
              · as_aux_lemma => kernel_rfl
              · as_aux_lemma => kernel_rfl
              refine RUN0 1 [] [(0, .v (.string (bs line))), (2, .p 0 0), (7, .p 1 0), (9, .v (.string (bs y17))), (45, .v (.slice a13 ((parts ((Lib.cut line ([32])).2.1) 32).length) c14)), (46, I (((parts ((Lib.cut line ([32])).2.1) 32).length : Nat) : Int)), (47, I (k : Int))] ?_ rfl ?_
              · as_aux_lemma => kernel_rfl
              refine ENDOPS (NEXT (SEQ (REGION [0, 1, 2, 3, 4, 5, 6] rfl (RUN0 1 [1, 2, 3, 4, 5, 6] [(0, .v (.string (bs line))), (2, .p 0 0), (7, .p 1 0), (45, .v (.slice a13 ((parts ((Lib.cut line ([32])).2.1) 32).length) c14)), (46, I (((parts ((Lib.cut line ([32])).2.1) 32).length : Nat) : Int)), (47, I (k : Int)), (52, .v (.string (bs y17)))] ?_ rfl ?_))))
              · as_aux_lemma => kernel_rfl
              refine OPC (CALL 15 #[.string (bs y17)] (some 53) ?_ [] [] _ rfl (RV (.tuple #[vi (((number y17).getD 0 : Nat) : Int), .bool ((number y17).isSome)])) (fun w hw => iNumber_c w y17 (htab.fr hw.fr)) (by rintro _ ⟨⟩; exact Nat.le_of_ble_eq_true rfl) ?_)
              · as_aux_lemma => kernel_rfl
              rintro ⟨⟩
              refine RUN0 5 [] [(0, .v (.string (bs line))), (2, .p 0 0), (7, .p 1 0), (10, I (((number y17).getD 0 : Nat) : Int)), (45, .v (.slice a13 ((parts ((Lib.cut line ([32])).2.1) 32).length) c14)), (46, I (((parts ((Lib.cut line ([32])).2.1) 32).length : Nat) : Int)), (47, I (k : Int))] ?_ rfl ?_
              · as_aux_lemma => kernel_rfl
              refine ENDOPS (NEXT (REGION [0, 1, 2, 3, 4, 5, 6] rfl (RUN0 3 [3, 4, 5, 6] [(0, .v (.string (bs line))), (2, .p 0 0), (7, .p 1 0), (45, .v (.slice a13 ((parts ((Lib.cut line ([32])).2.1) 32).length) c14)), (46, I (((parts ((Lib.cut line ([32])).2.1) 32).length : Nat) : Int)), (47, I (k : Int)), (57, .v (.slice oa out.length oc)), (58, I (((number y17).getD 0 : Nat) : Int))] ?_ rfl ?_)))
              · as_aux_lemma => kernel_rfl
              refine OPC (BUILDS 24 1 #[(0, .tmp 58)] 59 24 ?_ (Nat.le_of_ble_eq_true rfl) 3 [vi (((number y17).getD 0 : Nat) : Int)] ?_ intL [(((number y17).getD 0 : Nat) : Int)] rfl (by simp only [maxLen]; omega) [] [] _ rfl (flatRep rfl) (fun a20 ha21 => ?_))
              · as_aux_lemma => kernel_rfl
              · as_aux_lemma => kernel_rfl
              refine OPC (APPENDO 24 (.tmp 57) (.tmp 59) 60 24 ?_ (Nat.le_of_ble_eq_true rfl) (.slice oa out.length oc) a20 1 1 ?_ ?_ ha21 3 ?_ intL (vi 0) 8 ?_ rfl (by decide) 1 1 out ([(((number y17).getD 0 : Nat) : Int)]) _ rfl rfl (by first | omega | (simp only [List.length_append, List.length_cons, List.length_nil, List.length_take, List.length_drop] at *; omega)) (by simp only [maxLen]; first | omega | (simp only [List.length_append, List.length_cons, List.length_nil, List.length_take, List.length_drop] at *; omega)) (fun a22 c23 hn24 => ?_))
              · as_aux_lemma => kernel_rfl
              · as_aux_lemma => kernel_rfl
              · as_aux_lemma => kernel_rfl
              · as_aux_lemma => kernel_rfl
              · as_aux_lemma => kernel_rfl
              refine RUN 2 [] [(0, .v (.string (bs line))), (2, .p 0 0), (7, .p 1 0), (45, .v (.slice a13 ((parts ((Lib.cut line ([32])).2.1) 32).length) c14)), (46, I (((parts ((Lib.cut line ([32])).2.1) 32).length : Nat) : Int)), (47, I (k : Int))] [(26, [vi 0, vi 0, vi 0, vi 0, vi 0, vi 0, vi 0, vi 0, .slice none 0 0]), (26, [vi 4, vi 0, vi 0, vi 0, vi 0, vi 0, vi 0, vi 0, .slice a22 ((out ++ ([(((number y17).getD 0 : Nat) : Int)])).length) c23])] ?_ rfl ?_
              · as_aux_lemma => kernel_rfl
              refine ENDOPS (OUTN (NEXT (REGION [0, 1] rfl (RUN0 1 [1] [(0, .v (.string (bs line))), (2, .p 0 0), (7, .p 1 0), (45, .v (.slice a13 ((parts ((Lib.cut line ([32])).2.1) 32).length) c14)), (46, I (((parts ((Lib.cut line ([32])).2.1) 32).length : Nat) : Int)), (62, I (wr ((k : Int) + 1)))] ?_ rfl ?_))))
              · as_aux_lemma => kernel_rfl
              refine CAST (d := 62) (vi (wr ((k : Int) + 1))) (vi ((k + 1 : Nat) : Int)) ?_ (vi_cast (by omega) (by omega)) ?_
              · as_aux_lemma => kernel_rfl
              refine RUN0 1 [] [(0, .v (.string (bs line))), (2, .p 0 0), (7, .p 1 0), (45, .v (.slice a13 ((parts ((Lib.cut line ([32])).2.1) 32).length) c14)), (46, I (((parts ((Lib.cut line ([32])).2.1) 32).length : Nat) : Int)), (47, I ((k + 1 : Nat) : Int))] ?_ rfl ?_
              · as_aux_lemma => kernel_rfl
              refine ENDOPS (BACK (k + 1, ys18, a22, c23, out ++ ([(((number y17).getD 0 : Nat) : Int)])) [0, 2, 7, 45, 46, 47] 2 [0, 0] _ ⟨hl_y17, hd_y17, hv0.trans (by simp [numZ]), (by simp only [List.length_append, List.length_cons, List.length_nil]; omega)⟩ (by simp) ?_ rfl rfl rfl)
              · as_aux_lemma => kernel_rfl
            · -- decide ((k : Int) < (((parts ((Lib.cut line ([32])).2.1) 32).length : Nat) : Int)) = false
              have h16 := bh16
              have h16 := of_decide_eq_false h16
              obtain rfl := drop_nil hk (by omega)
              refine EXIT (PASS trivial (PASS trivial (OUT (OUTN (NEXT (SEQ (SEQ (REGION [0, 1, 2, 3, 4, 5, 6, 7, 8] rfl (RUN0 1 [1, 2, 3, 4, 5, 6, 7, 8] [(0, .v (.string (bs line))), (2, .p 0 0), (7, .p 1 0), (63, .v (.agg #[vi 4, vi 0, vi 0, vi 0, vi 0, vi 0, vi 0, vi 0, .slice oa out.length oc]))] ?_ rfl ?_)))))))))
              · as_aux_lemma => kernel_rfl
              refine OPC (CALL 17 #[.agg #[vi 4, vi 0, vi 0, vi 0, vi 0, vi 0, vi 0, vi 0, .slice oa out.length oc]] (some 64) ?_ [] [] _ rfl (RV (.bool (actOk (⟨4, (⟨0, 0, 0, 0, 0, 0⟩ : Req), 0, out⟩ : Act)))) (fun w hw => iActOk_c w (⟨4, (⟨0, 0, 0, 0, 0, 0⟩ : Req), 0, out⟩ : Act) oa oc (Rd.own (hw.own 1 rfl))) (by rintro _ ⟨⟩; exact Nat.le_of_ble_eq_true rfl) ?_)
              · as_aux_lemma => kernel_rfl
              rintro ⟨⟩
              refine RUN0 2 [4, 5, 6, 7, 8] [(0, .v (.string (bs line))), (2, .p 0 0), (7, .p 1 0), (66, B (!(actOk (⟨4, (⟨0, 0, 0, 0, 0, 0⟩ : Req), 0, out⟩ : Act))))] ?_ rfl ?_
              · as_aux_lemma => kernel_rfl
              refine SPLIT (d := 66) (!(actOk (⟨4, (⟨0, 0, 0, 0, 0, 0⟩ : Req), 0, out⟩ : Act))) ?_ (fun bh25 => ?_) (fun bh25 => ?_)
              · as_aux_lemma => kernel_rfl
              · -- !(actOk (⟨4, (⟨0, 0, 0, 0, 0, 0⟩ : Req), 0, out⟩ : Act)) = true
                have h25 := bh25
                have h25 := notT h25
                refine RUN0 5 [] [(2, .p 0 0), (7, .p 1 0), (71, B true)] ?_ rfl ?_
                · as_aux_lemma => kernel_rfl
                refine ENDOPS (NEXT (IFT ?_ ?_))
                · as_aux_lemma => kernel_rfl
                refine SEQ (REGION [0, 1, 2] rfl (RUN0 3 [] [(2, .p 0 0), (3, B false)] ?_ rfl ?_))
                · as_aux_lemma => kernel_rfl
                refine ENDOPS (NEXT (RET (PASS trivial (NIL 3 intL ?_))))
                have efin : readActI line = none := by 
                  have hx : actI line = (⟨4, (⟨0, 0, 0, 0, 0, 0⟩ : Req), 0, out⟩ : Act) := by (rw [actI, if_neg h2, if_neg h5, if_neg h8, if_pos h11]; simp only [h12, if_true, hv0, List.map_nil, List.append_nil])
                  rw [readActI, hx]; exact if_neg (fun e => (by first | exact absurd e.2 (by assumption) | (have h1 := e.1; exact absurd h1 (by simp only [Bool.not_eq_true]; assumption))))
                refine FIN (.tuple #[.agg #[vi 0, vi 0, vi 0, vi 0, vi 0, vi 0, vi 0, vi 0, .slice none 0 0], .bool false]) ?_ (none, 0) ?_ [2] ?_
                · as_aux_lemma => kernel_rfl
                · (rw [efin] <;> rfl)
                · (rw [efin] <;> rfl)
              · -- !(actOk (⟨4, (⟨0, 0, 0, 0, 0, 0⟩ : Req), 0, out⟩ : Act)) = false
                have h25 := bh25
                have h25 := notF h25
                refine RUN0 1 [5, 6, 7, 8] [(0, .v (.string (bs line))), (2, .p 0 0), (7, .p 1 0), (66, B false), (67, .v (.agg #[vi 4, vi 0, vi 0, vi 0, vi 0, vi 0, vi 0, vi 0, .slice oa out.length oc]))] ?_ rfl ?_
                · as_aux_lemma => kernel_rfl
                refine OPC (CALL 18 #[.agg #[vi 4, vi 0, vi 0, vi 0, vi 0, vi 0, vi 0, vi 0, .slice oa out.length oc]] (some 68) ?_ [] [] _ rfl (RV (.string (bs (actLine (⟨4, (⟨0, 0, 0, 0, 0, 0⟩ : Req), 0, out⟩ : Act))))) (fun w hw => iActLine_c w (⟨4, (⟨0, 0, 0, 0, 0, 0⟩ : Req), 0, out⟩ : Act) oa oc (Rd.own (hw.own 1 rfl)) (htab.fr hw.fr)) (by rintro _ ⟨⟩; exact Nat.le_of_ble_eq_true rfl) ?_)
                · as_aux_lemma => kernel_rfl
                rintro ⟨⟩
                refine RUN0 1 [7, 8] [(2, .p 0 0), (7, .p 1 0), (66, B false), (68, .v (.string (bs (actLine (⟨4, (⟨0, 0, 0, 0, 0, 0⟩ : Req), 0, out⟩ : Act))))), (69, .v (.string (bs line)))] ?_ rfl ?_
                · as_aux_lemma => kernel_rfl
                refine OPC (RUNV (.binOp .neq 9 (.tmp 68) (.tmp 69) 9) 70 4 ?_ (Nat.le_of_ble_eq_true rfl) (.bool (!((actLine (⟨4, (⟨0, 0, 0, 0, 0, 0⟩ : Req), 0, out⟩ : Act)) == line))) (runs_sneq (a := actLine (⟨4, (⟨0, 0, 0, 0, 0, 0⟩ : Req), 0, out⟩ : Act)) (b := line) ?_ ?_) ?_)
                · as_aux_lemma => kernel_rfl
                · as_aux_lemma => kernel_rfl
                · as_aux_lemma => kernel_rfl
                refine RUN0 1 [] [(2, .p 0 0), (7, .p 1 0), (71, B (!((actLine (⟨4, (⟨0, 0, 0, 0, 0, 0⟩ : Req), 0, out⟩ : Act)) == line)))] ?_ rfl ?_
                · as_aux_lemma => kernel_rfl
                refine ENDOPS (NEXT (IF (!((actLine (⟨4, (⟨0, 0, 0, 0, 0, 0⟩ : Req), 0, out⟩ : Act)) == line)) ?_ (fun bh26 => ?_) (fun bh26 => ?_)))
                · as_aux_lemma => kernel_rfl
                · -- !((actLine (⟨4, (⟨0, 0, 0, 0, 0, 0⟩ : Req), 0, out⟩ : Act)) == line) = true
                  have h26 := bh26
                  have h26 := notT h26
                  have h26 := ne_of_beq_false h26
                  refine SEQ (REGION [0, 1, 2] rfl (RUN0 3 [] [(2, .p 0 0), (3, B false)] ?_ rfl ?_))
                  · as_aux_lemma => kernel_rfl
                  refine ENDOPS (NEXT (RET (PASS trivial (NIL 3 intL ?_))))
                  have efin : readActI line = none := by 
                    have hx : actI line = (⟨4, (⟨0, 0, 0, 0, 0, 0⟩ : Req), 0, out⟩ : Act) := by (rw [actI, if_neg h2, if_neg h5, if_neg h8, if_pos h11]; simp only [h12, if_true, hv0, List.map_nil, List.append_nil])
                    rw [readActI, hx]; exact if_neg (fun e => (by first | exact absurd e.2 (by assumption) | (have h1 := e.1; exact absurd h1 (by simp only [Bool.not_eq_true]; assumption))))
                  refine FIN (.tuple #[.agg #[vi 0, vi 0, vi 0, vi 0, vi 0, vi 0, vi 0, vi 0, .slice none 0 0], .bool false]) ?_ (none, 0) ?_ [2] ?_
                  · as_aux_lemma => kernel_rfl
                  · (rw [efin] <;> rfl)
                  · (rw [efin] <;> rfl)
                · -- !((actLine (⟨4, (⟨0, 0, 0, 0, 0, 0⟩ : Req), 0, out⟩ : Act)) == line) = false
                  have h26 := bh26
                  have h26 := notF h26
                  have h26 := eq_of_beq h26
                  refine SKIP (NEXT (SEQ (REGION [0, 1, 2] rfl (RUN 3 [] [(2, .p 0 0), (3, B true)] [(26, [vi 4, vi 0, vi 0, vi 0, vi 0, vi 0, vi 0, vi 0, .slice oa out.length oc]), (26, [vi 4, vi 0, vi 0, vi 0, vi 0, vi 0, vi 0, vi 0, .slice oa out.length oc])] ?_ rfl ?_))))
                  · as_aux_lemma => kernel_rfl
                  refine ENDOPS (NEXT (RET ?_))
                  have efin : readActI line = some (⟨4, (⟨0, 0, 0, 0, 0, 0⟩ : Req), 0, out⟩ : Act) := by 
                    have hx : actI line = (⟨4, (⟨0, 0, 0, 0, 0, 0⟩ : Req), 0, out⟩ : Act) := by (rw [actI, if_neg h2, if_neg h5, if_neg h8, if_pos h11]; simp only [h12, if_true, hv0, List.map_nil, List.append_nil])
                    rw [readActI, hx]; exact if_pos ⟨by assumption, by assumption⟩
                  refine FIN (.tuple #[.agg #[vi 4, vi 0, vi 0, vi 0, vi 0, vi 0, vi 0, vi 0, .slice oa out.length oc], .bool true]) ?_ (oa, oc) ?_ [1] ?_
                  · as_aux_lemma => kernel_rfl
                  · (rw [efin] <;> rfl)
                  · (rw [efin] <;> rfl)
          · -- (Lib.cut line ([32])).2.2 = false
            have h12 := bh12
            refine SKIP (OUTN (NEXT (SEQ (SEQ (REGION [0, 1, 2, 3, 4, 5, 6, 7, 8] rfl (RUN0 1 [1, 2, 3, 4, 5, 6, 7, 8] [(0, .v (.string (bs line))), (2, .p 0 0), (7, .p 1 0), (63, .v (.agg #[vi 4, vi 0, vi 0, vi 0, vi 0, vi 0, vi 0, vi 0, .slice none 0 0]))] ?_ rfl ?_))))))
            · as_aux_lemma => kernel_rfl
            refine OPC (CALL 17 #[.agg #[vi 4, vi 0, vi 0, vi 0, vi 0, vi 0, vi 0, vi 0, .slice none 0 0]] (some 64) ?_ [] [] _ rfl (RV (.bool (actOk (⟨4, (⟨0, 0, 0, 0, 0, 0⟩ : Req), 0, []⟩ : Act)))) (fun w hw => iActOk_c w (⟨4, (⟨0, 0, 0, 0, 0, 0⟩ : Req), 0, []⟩ : Act) none 0 (Rd.nil _ _)) (by rintro _ ⟨⟩; exact Nat.le_of_ble_eq_true rfl) ?_)
            · as_aux_lemma => kernel_rfl
            rintro ⟨⟩
            refine RUN0 2 [4, 5, 6, 7, 8] [(0, .v (.string (bs line))), (2, .p 0 0), (7, .p 1 0), (66, B (!(actOk (⟨4, (⟨0, 0, 0, 0, 0, 0⟩ : Req), 0, []⟩ : Act))))] ?_ rfl ?_
            · as_aux_lemma => kernel_rfl
            refine SPLIT (d := 66) (!(actOk (⟨4, (⟨0, 0, 0, 0, 0, 0⟩ : Req), 0, []⟩ : Act))) ?_ (fun bh27 => ?_) (fun bh27 => ?_)
            · as_aux_lemma => kernel_rfl
            · -- !(actOk (⟨4, (⟨0, 0, 0, 0, 0, 0⟩ : Req), 0, []⟩ : Act)) = true
              have h27 := bh27
              have h27 := notT h27
              refine RUN0 5 [] [(2, .p 0 0), (7, .p 1 0), (71, B true)] ?_ rfl ?_
              · as_aux_lemma => kernel_rfl
              refine ENDOPS (NEXT (IFT ?_ ?_))
              · as_aux_lemma => kernel_rfl
              refine SEQ (REGION [0, 1, 2] rfl (RUN0 3 [] [(2, .p 0 0), (3, B false)] ?_ rfl ?_))
              · as_aux_lemma => kernel_rfl
              refine ENDOPS (NEXT (RET (PASS trivial (NIL 3 intL ?_))))
              have efin : readActI line = none := by 
                have hx : actI line = (⟨4, (⟨0, 0, 0, 0, 0, 0⟩ : Req), 0, []⟩ : Act) := by (rw [actI, if_neg h2, if_neg h5, if_neg h8, if_pos h11]; simp [*])
                rw [readActI, hx]; exact if_neg (fun e => (by first | exact absurd e.2 (by assumption) | (have h1 := e.1; exact absurd h1 (by simp only [Bool.not_eq_true]; assumption))))
              refine FIN (.tuple #[.agg #[vi 0, vi 0, vi 0, vi 0, vi 0, vi 0, vi 0, vi 0, .slice none 0 0], .bool false]) ?_ (none, 0) ?_ [0] ?_
              · as_aux_lemma => kernel_rfl
              · (rw [efin] <;> rfl)
              · (rw [efin] <;> rfl)
            · -- !(actOk (⟨4, (⟨0, 0, 0, 0, 0, 0⟩ : Req), 0, []⟩ : Act)) = false
              have h27 := bh27
              have h27 := notF h27
              refine RUN0 1 [5, 6, 7, 8] [(0, .v (.string (bs line))), (2, .p 0 0), (7, .p 1 0), (66, B false), (67, .v (.agg #[vi 4, vi 0, vi 0, vi 0, vi 0, vi 0, vi 0, vi 0, .slice none 0 0]))] ?_ rfl ?_
              · as_aux_lemma => kernel_rfl
              refine OPC (CALL 18 #[.agg #[vi 4, vi 0, vi 0, vi 0, vi 0, vi 0, vi 0, vi 0, .slice none 0 0]] (some 68) ?_ [] [] _ rfl (RV (.string (bs (actLine (⟨4, (⟨0, 0, 0, 0, 0, 0⟩ : Req), 0, []⟩ : Act))))) (fun w hw => iActLine_c w (⟨4, (⟨0, 0, 0, 0, 0, 0⟩ : Req), 0, []⟩ : Act) none 0 (Rd.nil _ _) (htab.fr hw.fr)) (by rintro _ ⟨⟩; exact Nat.le_of_ble_eq_true rfl) ?_)
              · as_aux_lemma => kernel_rfl
              rintro ⟨⟩
              refine RUN0 1 [7, 8] [(2, .p 0 0), (7, .p 1 0), (66, B false), (68, .v (.string (bs (actLine (⟨4, (⟨0, 0, 0, 0, 0, 0⟩ : Req), 0, []⟩ : Act))))), (69, .v (.string (bs line)))] ?_ rfl ?_
              · as_aux_lemma => kernel_rfl
              refine OPC (RUNV (.binOp .neq 9 (.tmp 68) (.tmp 69) 9) 70 4 ?_ (Nat.le_of_ble_eq_true rfl) (.bool (!((actLine (⟨4, (⟨0, 0, 0, 0, 0, 0⟩ : Req), 0, []⟩ : Act)) == line))) (runs_sneq (a := actLine (⟨4, (⟨0, 0, 0, 0, 0, 0⟩ : Req), 0, []⟩ : Act)) (b := line) ?_ ?_) ?_)
              · as_aux_lemma => kernel_rfl
              · as_aux_lemma => kernel_rfl
              · as_aux_lemma => kernel_rfl
              refine RUN0 1 [] [(2, .p 0 0), (7, .p 1 0), (71, B (!((actLine (⟨4, (⟨0, 0, 0, 0, 0, 0⟩ : Req), 0, []⟩ : Act)) == line)))] ?_ rfl ?_
              · as_aux_lemma => kernel_rfl
              refine ENDOPS (NEXT (IF (!((actLine (⟨4, (⟨0, 0, 0, 0, 0, 0⟩ : Req), 0, []⟩ : Act)) == line)) ?_ (fun bh28 => ?_) (fun bh28 => ?_)))
              · as_aux_lemma => kernel_rfl
              · -- !((actLine (⟨4, (⟨0, 0, 0, 0, 0, 0⟩ : Req), 0, []⟩ : Act)) == line) = true
                have h28 := bh28
                have h28 := notT h28
                have h28 := ne_of_beq_false h28
                refine SEQ (REGION [0, 1, 2] rfl (RUN0 3 [] [(2, .p 0 0), (3, B false)] ?_ rfl ?_))
                · as_aux_lemma => kernel_rfl
                refine ENDOPS (NEXT (RET (PASS trivial (NIL 3 intL ?_))))
                have efin : readActI line = none := by 
                  have hx : actI line = (⟨4, (⟨0, 0, 0, 0, 0, 0⟩ : Req), 0, []⟩ : Act) := by (rw [actI, if_neg h2, if_neg h5, if_neg h8, if_pos h11]; simp [*])
                  rw [readActI, hx]; exact if_neg (fun e => (by first | exact absurd e.2 (by assumption) | (have h1 := e.1; exact absurd h1 (by simp only [Bool.not_eq_true]; assumption))))
                refine FIN (.tuple #[.agg #[vi 0, vi 0, vi 0, vi 0, vi 0, vi 0, vi 0, vi 0, .slice none 0 0], .bool false]) ?_ (none, 0) ?_ [0] ?_
                · as_aux_lemma => kernel_rfl
                · (rw [efin] <;> rfl)
                · (rw [efin] <;> rfl)
              · -- !((actLine (⟨4, (⟨0, 0, 0, 0, 0, 0⟩ : Req), 0, []⟩ : Act)) == line) = false
                have h28 := bh28
                have h28 := notF h28
                have h28 := eq_of_beq h28
                refine SKIP (NEXT (SEQ (REGION [0, 1, 2] rfl (RUN 3 [] [(2, .p 0 0), (3, B true)] [(26, [vi 4, vi 0, vi 0, vi 0, vi 0, vi 0, vi 0, vi 0, .slice none 0 0]), (26, [vi 4, vi 0, vi 0, vi 0, vi 0, vi 0, vi 0, vi 0, .slice none 0 0])] ?_ rfl ?_))))
                · as_aux_lemma => kernel_rfl
                refine ENDOPS (NEXT (RET (NIL 3 intL ?_)))
                have efin : readActI line = some (⟨4, (⟨0, 0, 0, 0, 0, 0⟩ : Req), 0, []⟩ : Act) := by 
                  have hx : actI line = (⟨4, (⟨0, 0, 0, 0, 0, 0⟩ : Req), 0, []⟩ : Act) := by (rw [actI, if_neg h2, if_neg h5, if_neg h8, if_pos h11]; simp [*])
                  rw [readActI, hx]; exact if_pos ⟨by assumption, by assumption⟩
                refine FIN (.tuple #[.agg #[vi 4, vi 0, vi 0, vi 0, vi 0, vi 0, vi 0, vi 0, .slice none 0 0], .bool true]) ?_ (none, 0) ?_ [0] ?_
                · as_aux_lemma => kernel_rfl
                · (rw [efin] <;> rfl)
                · (rw [efin] <;> rfl)
        · -- ((Lib.cut line ([32])).1) == ([102, 97, 108, 108]) = false
          have h11 := bh11
          have h11 := ne_of_beq_false h11
          refine SKIP (OUTN (NEXT (SEQ (SEQ (REGION [0, 1, 2, 3, 4, 5, 6, 7, 8] rfl (RUN0 1 [1, 2, 3, 4, 5, 6, 7, 8] [(0, .v (.string (bs line))), (2, .p 0 0), (7, .p 1 0), (63, .v (.agg #[vi 0, vi 0, vi 0, vi 0, vi 0, vi 0, vi 0, vi 0, .slice none 0 0]))] ?_ rfl ?_))))))
          · as_aux_lemma => kernel_rfl
          refine OPC (CALL 17 #[.agg #[vi 0, vi 0, vi 0, vi 0, vi 0, vi 0, vi 0, vi 0, .slice none 0 0]] (some 64) ?_ [] [] _ rfl (RV (.bool (actOk (⟨0, (⟨0, 0, 0, 0, 0, 0⟩ : Req), 0, []⟩ : Act)))) (fun w hw => iActOk_c w (⟨0, (⟨0, 0, 0, 0, 0, 0⟩ : Req), 0, []⟩ : Act) none 0 (Rd.nil _ _)) (by rintro _ ⟨⟩; exact Nat.le_of_ble_eq_true rfl) ?_)
          · as_aux_lemma => kernel_rfl
          rintro ⟨⟩
          refine RUN0 2 [4, 5, 6, 7, 8] [(0, .v (.string (bs line))), (2, .p 0 0), (7, .p 1 0), (66, B (!(actOk (⟨0, (⟨0, 0, 0, 0, 0, 0⟩ : Req), 0, []⟩ : Act))))] ?_ rfl ?_
          · as_aux_lemma => kernel_rfl
          refine SPLIT (d := 66) (!(actOk (⟨0, (⟨0, 0, 0, 0, 0, 0⟩ : Req), 0, []⟩ : Act))) ?_ (fun bh29 => ?_) (fun bh29 => ?_)
          · as_aux_lemma => kernel_rfl
          · -- !(actOk (⟨0, (⟨0, 0, 0, 0, 0, 0⟩ : Req), 0, []⟩ : Act)) = true
            have h29 := bh29
            have h29 := notT h29
            refine RUN0 5 [] [(2, .p 0 0), (7, .p 1 0), (71, B true)] ?_ rfl ?_
            · as_aux_lemma => kernel_rfl
            refine ENDOPS (NEXT (IFT ?_ ?_))
            · as_aux_lemma => kernel_rfl
            refine SEQ (REGION [0, 1, 2] rfl (RUN0 3 [] [(2, .p 0 0), (3, B false)] ?_ rfl ?_))
            · as_aux_lemma => kernel_rfl
            refine ENDOPS (NEXT (RET (PASS trivial (NIL 3 intL ?_))))
            have efin : readActI line = none := by 
              have hx : actI line = (⟨0, (⟨0, 0, 0, 0, 0, 0⟩ : Req), 0, []⟩ : Act) := by (rw [actI, if_neg h2, if_neg h5, if_neg h8, if_neg h11] <;> rfl)
              rw [readActI, hx]; exact if_neg (fun e => (by first | exact absurd e.2 (by assumption) | (have h1 := e.1; exact absurd h1 (by simp only [Bool.not_eq_true]; assumption))))
            refine FIN (.tuple #[.agg #[vi 0, vi 0, vi 0, vi 0, vi 0, vi 0, vi 0, vi 0, .slice none 0 0], .bool false]) ?_ (none, 0) ?_ [0] ?_
            · as_aux_lemma => kernel_rfl
            · (rw [efin] <;> rfl)
            · (rw [efin] <;> rfl)
          · -- !(actOk (⟨0, (⟨0, 0, 0, 0, 0, 0⟩ : Req), 0, []⟩ : Act)) = false
            have h29 := bh29
            have h29 := notF h29
            refine RUN0 1 [5, 6, 7, 8] [(0, .v (.string (bs line))), (2, .p 0 0), (7, .p 1 0), (66, B false), (67, .v (.agg #[vi 0, vi 0, vi 0, vi 0, vi 0, vi 0, vi 0, vi 0, .slice none 0 0]))] ?_ rfl ?_
            · as_aux_lemma => kernel_rfl
            refine OPC (CALL 18 #[.agg #[vi 0, vi 0, vi 0, vi 0, vi 0, vi 0, vi 0, vi 0, .slice none 0 0]] (some 68) ?_ [] [] _ rfl (RV (.string (bs (actLine (⟨0, (⟨0, 0, 0, 0, 0, 0⟩ : Req), 0, []⟩ : Act))))) (fun w hw => iActLine_c w (⟨0, (⟨0, 0, 0, 0, 0, 0⟩ : Req), 0, []⟩ : Act) none 0 (Rd.nil _ _) (htab.fr hw.fr)) (by rintro _ ⟨⟩; exact Nat.le_of_ble_eq_true rfl) ?_)
            · as_aux_lemma => kernel_rfl
            rintro ⟨⟩
            refine RUN0 1 [7, 8] [(2, .p 0 0), (7, .p 1 0), (66, B false), (68, .v (.string (bs (actLine (⟨0, (⟨0, 0, 0, 0, 0, 0⟩ : Req), 0, []⟩ : Act))))), (69, .v (.string (bs line)))] ?_ rfl ?_
            · as_aux_lemma => kernel_rfl
            refine OPC (RUNV (.binOp .neq 9 (.tmp 68) (.tmp 69) 9) 70 4 ?_ (Nat.le_of_ble_eq_true rfl) (.bool (!((actLine (⟨0, (⟨0, 0, 0, 0, 0, 0⟩ : Req), 0, []⟩ : Act)) == line))) (runs_sneq (a := actLine (⟨0, (⟨0, 0, 0, 0, 0, 0⟩ : Req), 0, []⟩ : Act)) (b := line) ?_ ?_) ?_)
            · as_aux_lemma => kernel_rfl
            · as_aux_lemma => kernel_rfl
            · as_aux_lemma => kernel_rfl
            refine RUN0 1 [] [(2, .p 0 0), (7, .p 1 0), (71, B (!((actLine (⟨0, (⟨0, 0, 0, 0, 0, 0⟩ : Req), 0, []⟩ : Act)) == line)))] ?_ rfl ?_
            · as_aux_lemma => kernel_rfl
            refine ENDOPS (NEXT (IF (!((actLine (⟨0, (⟨0, 0, 0, 0, 0, 0⟩ : Req), 0, []⟩ : Act)) == line)) ?_ (fun bh30 => ?_) (fun bh30 => ?_)))
            · as_aux_lemma => kernel_rfl
            · -- !((actLine (⟨0, (⟨0, 0, 0, 0, 0, 0⟩ : Req), 0, []⟩ : Act)) == line) = true
              have h30 := bh30
              have h30 := notT h30
              have h30 := ne_of_beq_false h30
              refine SEQ (REGION [0, 1, 2] rfl (RUN0 3 [] [(2, .p 0 0), (3, B false)] ?_ rfl ?_))
              · as_aux_lemma => kernel_rfl
              refine ENDOPS (NEXT (RET (PASS trivial (NIL 3 intL ?_))))
              have efin : readActI line = none := by 
                have hx : actI line = (⟨0, (⟨0, 0, 0, 0, 0, 0⟩ : Req), 0, []⟩ : Act) := by (rw [actI, if_neg h2, if_neg h5, if_neg h8, if_neg h11] <;> rfl)
                rw [readActI, hx]; exact if_neg (fun e => (by first | exact absurd e.2 (by assumption) | (have h1 := e.1; exact absurd h1 (by simp only [Bool.not_eq_true]; assumption))))
              refine FIN (.tuple #[.agg #[vi 0, vi 0, vi 0, vi 0, vi 0, vi 0, vi 0, vi 0, .slice none 0 0], .bool false]) ?_ (none, 0) ?_ [0] ?_
              · as_aux_lemma => kernel_rfl
              · (rw [efin] <;> rfl)
              · (rw [efin] <;> rfl)
            · -- !((actLine (⟨0, (⟨0, 0, 0, 0, 0, 0⟩ : Req), 0, []⟩ : Act)) == line) = false
              have h30 := bh30
              have h30 := notF h30
              have h30 := eq_of_beq h30
              refine SKIP (NEXT (SEQ (REGION [0, 1, 2] rfl (RUN0 3 [] [(2, .p 0 0), (3, B true)] ?_ rfl ?_))))
              · as_aux_lemma => kernel_rfl
              refine ENDOPS (NEXT (RET (NIL 3 intL ?_)))
              have efin : readActI line = some (⟨0, (⟨0, 0, 0, 0, 0, 0⟩ : Req), 0, []⟩ : Act) := by 
                have hx : actI line = (⟨0, (⟨0, 0, 0, 0, 0, 0⟩ : Req), 0, []⟩ : Act) := by (rw [actI, if_neg h2, if_neg h5, if_neg h8, if_neg h11] <;> rfl)
                rw [readActI, hx]; exact if_pos ⟨by assumption, by assumption⟩
              refine FIN (.tuple #[.agg #[vi 0, vi 0, vi 0, vi 0, vi 0, vi 0, vi 0, vi 0, .slice none 0 0], .bool true]) ?_ (none, 0) ?_ [0] ?_
              · as_aux_lemma => kernel_rfl
              · (rw [efin] <;> rfl)
              · (rw [efin] <;> rfl)

end SX
end Go.Proofs.YtpdijcbgdalphabDoor
