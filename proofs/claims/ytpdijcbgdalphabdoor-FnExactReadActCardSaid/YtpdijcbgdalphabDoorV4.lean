/- Walks, printed by program. -/
import Derived.Test.YtpdijcbgdalphabDoorV3
namespace Go.Proofs.YtpdijcbgdalphabDoor
namespace SX
open Go Go.RowKit
set_option linter.unusedVariables false
set_option linter.unusedSimpArgs false
set_option maxRecDepth 10000
theorem sReadAct_c (W : World) (line : List UInt8) (hl : line.length ≤ 1048576) : Spec Tryd.prog W [] 4 #[.string (bs line)] (⟨HH, fun p => .tuple #[.agg #[vi ((optAct (readActS line)).kind), vi (((optAct (readActS line)).req).kind), vi (((optAct (readActS line)).req).id), vi (((optAct (readActS line)).req).cabin), vi (((optAct (readActS line)).req).from'), vi (((optAct (readActS line)).req).size), vi (((optAct (readActS line)).req).tier), vi ((optAct (readActS line)).n), .slice p.1 (((optAct (readActS line)).keep).length) p.2], .bool ((readActS line).isSome)], fun p => [slA 3 intL (.slice p.1 ((optAct (readActS line)).keep).length p.2) ((optAct (readActS line)).keep)]⟩) := by
  refine ENTER0 (N := 70) (vs := [.string (bs line)]) Tryd.func4 rfl rfl (Nat.le_of_ble_eq_true rfl) ?_
  refine SEQ (REGION [0, 1] rfl (RUN 2 [] [(0, .v (.string (bs line))), (2, .p 0 0)] [(26, [vi 0, vi 0, vi 0, vi 0, vi 0, vi 0, vi 0, vi 0, .slice none 0 0])] ?_ rfl ?_))
  · as_aux_lemma => kernel_rfl
  refine ENDOPS (NEXT (SEQ (SEQ (REGION [0, 1, 2] rfl (RUN0 3 [] [(0, .v (.string (bs line))), (2, .p 0 0), (10, B (decide ((line.length : Int) > 90)))] ?_ rfl ?_)))))
  · as_aux_lemma => kernel_rfl
  refine ENDOPS (NEXT (IF (decide ((line.length : Int) > 90)) ?_ (fun bh1 => ?_) (fun bh1 => ?_)))
  · as_aux_lemma => kernel_rfl
  · -- decide ((line.length : Int) > 90) = true
    have h1 := bh1
    have h1 := of_decide_eq_true h1
    refine SEQ (REGION [0, 1, 2] rfl (RUN0 3 [] [(2, .p 0 0), (3, B false)] ?_ rfl ?_))
    · as_aux_lemma => kernel_rfl
    refine ENDOPS (NEXT (RET (PASS trivial (NIL 3 intL ?_))))
    have efin : readActS line = none := by rw [readActS, if_pos (by omega)]
    refine FIN (.tuple #[.agg #[vi 0, vi 0, vi 0, vi 0, vi 0, vi 0, vi 0, vi 0, .slice none 0 0], .bool false]) ?_ (none, 0) ?_ [0] ?_
    · as_aux_lemma => kernel_rfl
    · (rw [efin] <;> rfl)
    · (rw [efin] <;> rfl)
  · -- decide ((line.length : Int) > 90) = false
    have h1 := bh1
    have h1 := of_decide_eq_false h1
    refine SKIP (NEXT (SEQ (REGION [0, 1, 2] rfl (RUN0 1 [1, 2] [(0, .v (.string (bs line))), (2, .p 0 0), (12, .v (.string (bs line)))] ?_ rfl ?_))))
    · as_aux_lemma => kernel_rfl
    refine OPC (CALL 9 #[.string (bs line), .int .u8 32] (some 13) ?_ [] [] _ rfl (⟨HH, fun p => .slice p.1 ((parts line 32).length) p.2, fun p => [slA 9 strL (.slice p.1 (parts line 32).length p.2) (parts line 32)]⟩) (fun w hw => sParts_c w line 32 (by first | assumption | omega)) (by rintro _ ⟨⟩; exact Nat.le_of_ble_eq_true rfl) ?_)
    · as_aux_lemma => kernel_rfl
    rintro ⟨a2, c3⟩
    have hr4 := parts_len line 32
    refine RUN0 1 [] [(0, .v (.string (bs line))), (2, .p 0 0), (4, .v (.slice a2 ((parts line 32).length) c3))] ?_ rfl ?_
    · as_aux_lemma => kernel_rfl
    refine ENDOPS (NEXT (SEQ (REGION [0, 1, 2] rfl (RUN 3 [] [(0, .v (.string (bs line))), (2, .p 0 0), (4, .v (.slice a2 ((parts line 32).length) c3)), (5, .p 1 0)] [(26, [vi 0, vi 0, vi 0, vi 0, vi 0, vi 0, vi 0, vi 0, .slice none 0 0]), (26, [vi 0, vi 0, vi 0, vi 0, vi 0, vi 0, vi 0, vi 0, .slice none 0 0])] ?_ rfl ?_))))
    · as_aux_lemma => kernel_rfl
    refine ENDOPS (NEXT (SEQ (SEQ (REGION [0, 1, 2] rfl (RUN0 1 [1, 2] [(0, .v (.string (bs line))), (2, .p 0 0), (4, .v (.slice a2 ((parts line 32).length) c3)), (5, .p 1 0), (15, .v (.slice a2 ((parts line 32).length) c3))] ?_ rfl ?_)))))
    · as_aux_lemma => kernel_rfl
    obtain ⟨x5, hx6⟩ : ∃ y, (parts line 32)[0]? = some y := ⟨_, List.getElem?_eq_getElem (by omega)⟩
    refine FACT (a2.isSome = true) (fun w hw => SlO.isS (hw.own 0 rfl) (by omega)) (fun hs7 => ?_)
    refine OPC (INDEX 32 (.tmp 15) (.const (vi 0)) 16 0 ?_ (Nat.le_of_ble_eq_true rfl) a2 ((parts line 32).length) c3 .i64 0 9 1 ?_ ?_ ?_ ?_ hs7 (by omega) (by omega) ?_)
    · as_aux_lemma => kernel_rfl
    · as_aux_lemma => kernel_rfl
    · as_aux_lemma => kernel_rfl
    · as_aux_lemma => kernel_rfl
    · as_aux_lemma => kernel_rfl
    refine OPC (LOADE 9 (.tmp 16) 17 9 ?_ (Nat.le_of_ble_eq_true rfl) a2 (0 * 1) 0 [.string (bs x5)] (.string (bs x5)) ?_ (fun w hw => (Rd.own (hw.own 0 rfl)).flat hx6) ?_ ?_)
    · as_aux_lemma => kernel_rfl
    · as_aux_lemma => kernel_rfl
    · as_aux_lemma => kernel_rfl
    refine ENDOPS (NEXT (BLOCK (SEQ (REGION [0, 1] rfl (OPC (RUNV (.binOp .eql 9 (.tmp 17) (.const (.string (bs ([108, 97, 121])))) 9) 19 4 ?_ (Nat.le_of_ble_eq_true rfl) (.bool (x5 == ([108, 97, 121]))) (runs_seql (a := x5) (b := [108, 97, 121]) ?_ ?_) ?_))))))
    · as_aux_lemma => kernel_rfl
    · as_aux_lemma => kernel_rfl
    · as_aux_lemma => kernel_rfl
    refine RUN0 1 [] [(0, .v (.string (bs line))), (2, .p 0 0), (4, .v (.slice a2 ((parts line 32).length) c3)), (5, .p 1 0), (17, .v (.string (bs x5))), (18, B (x5 == ([108, 97, 121])))] ?_ rfl ?_
    · as_aux_lemma => kernel_rfl
    refine ENDOPS (NEXT (IF (x5 == ([108, 97, 121])) ?_ (fun bh8 => ?_) (fun bh8 => ?_)))
    · as_aux_lemma => kernel_rfl
    · -- x5 == ([108, 97, 121]) = true
      have h8 := bh8
      have h8 := eq_of_beq h8
      refine SEQ (REGION [0, 1, 2] rfl (RUN0 3 [] [(0, .v (.string (bs line))), (2, .p 0 0), (5, .p 1 0), (22, B (decide ((line.length : Int) > 4)))] ?_ rfl ?_))
      · as_aux_lemma => kernel_rfl
      refine ENDOPS (NEXT (IF (decide ((line.length : Int) > 4)) ?_ (fun bh9 => ?_) (fun bh9 => ?_)))
      · as_aux_lemma => kernel_rfl
      · -- decide ((line.length : Int) > 4) = true
        have h9 := bh9
        have h9 := of_decide_eq_true h9
        refine SEQ (REGION [0, 1] rfl (RUN 2 [] [(0, .v (.string (bs line))), (2, .p 0 0), (5, .p 1 0)] [(26, [vi 0, vi 0, vi 0, vi 0, vi 0, vi 0, vi 0, vi 0, .slice none 0 0]), (26, [vi 1, vi 0, vi 0, vi 0, vi 0, vi 0, vi 0, vi 0, .slice none 0 0])] ?_ rfl ?_))
        · as_aux_lemma => kernel_rfl
        refine ENDOPS (NEXT (REGION [0, 1, 2, 3, 4, 5, 6, 7] rfl (RUN0 1 [1, 2, 3, 4, 5, 6, 7] [(0, .v (.string (bs line))), (2, .p 0 0), (5, .p 1 0), (25, .v (.string (bs line)))] ?_ rfl ?_)))
        · as_aux_lemma => kernel_rfl
        refine OPC (RUNV (.slice 9 (.tmp 25) (some (.const (vi 4))) none none) 26 9 ?_ (Nat.le_of_ble_eq_true rfl) (.string (bs (line.drop 4))) (runs_from (s := line) (kl := .i64) (i := 4) ?_ ?_ ?_ (by first | omega | (simp only [List.length_append, List.length_cons, List.length_nil, List.length_take, List.length_drop] at *; omega)) (by first | omega | (simp only [List.length_append, List.length_cons, List.length_nil, List.length_take, List.length_drop] at *; omega))) ?_)
        · as_aux_lemma => kernel_rfl
        · as_aux_lemma => kernel_rfl
        · as_aux_lemma => kernel_rfl
        · as_aux_lemma => kernel_rfl
        refine OPC (CALL 10 #[.string (bs (line.drop 4))] (some 27) ?_ [] [] _ rfl (RV (.tuple #[.agg #[vi ((optReq (readS (line.drop 4))).kind), vi ((optReq (readS (line.drop 4))).id), vi ((optReq (readS (line.drop 4))).cabin), vi ((optReq (readS (line.drop 4))).from'), vi ((optReq (readS (line.drop 4))).size), vi ((optReq (readS (line.drop 4))).tier)], .bool ((readS (line.drop 4)).isSome)])) (fun w hw => sReadReq_c w (line.drop 4) (by first | assumption | omega | (simp only [List.length_drop]; omega))) (by rintro _ ⟨⟩; exact Nat.le_of_ble_eq_true rfl) ?_)
        · as_aux_lemma => kernel_rfl
        rintro ⟨⟩
        refine RUN 5 [] [(0, .v (.string (bs line))), (2, .p 0 0), (5, .p 1 0)] [(26, [vi 0, vi 0, vi 0, vi 0, vi 0, vi 0, vi 0, vi 0, .slice none 0 0]), (26, [vi 1, vi ((optReq (readS (line.drop 4))).kind), vi ((optReq (readS (line.drop 4))).id), vi ((optReq (readS (line.drop 4))).cabin), vi ((optReq (readS (line.drop 4))).from'), vi ((optReq (readS (line.drop 4))).size), vi ((optReq (readS (line.drop 4))).tier), vi 0, .slice none 0 0])] ?_ rfl ?_
        · as_aux_lemma => kernel_rfl
        refine ENDOPS (OUTN (NEXT (SEQ (SEQ (REGION [0, 1, 2, 3, 4, 5, 6, 7] rfl (RUN0 1 [1, 2, 3, 4, 5, 6, 7] [(0, .v (.string (bs line))), (2, .p 0 0), (5, .p 1 0), (60, .v (.string (bs line)))] ?_ rfl ?_))))))
        · as_aux_lemma => kernel_rfl
        refine OPC (RUNV (.binOp .eql 9 (.tmp 60) (.const (.string (bs ([])))) 9) 61 4 ?_ (Nat.le_of_ble_eq_true rfl) (.bool (line == ([]))) (runs_seql (a := line) (b := []) ?_ ?_) ?_)
        · as_aux_lemma => kernel_rfl
        · as_aux_lemma => kernel_rfl
        · as_aux_lemma => kernel_rfl
        refine RUN0 1 [3, 4, 5, 6, 7] [(0, .v (.string (bs line))), (2, .p 0 0), (5, .p 1 0), (62, B (line == ([])))] ?_ rfl ?_
        · as_aux_lemma => kernel_rfl
        refine SPLIT (d := 62) (line == ([])) ?_ (fun bh10 => ?_) (fun bh10 => ?_)
        · as_aux_lemma => kernel_rfl
        · -- line == ([]) = true
          have h10 := bh10
          have h10 := eq_of_beq h10
          refine RUN0 5 [] [(2, .p 0 0), (5, .p 1 0), (67, B true)] ?_ rfl ?_
          · as_aux_lemma => kernel_rfl
          refine ENDOPS (NEXT (IFT ?_ ?_))
          · as_aux_lemma => kernel_rfl
          refine SEQ (REGION [0, 1, 2] rfl (RUN0 3 [] [(2, .p 0 0), (3, B false)] ?_ rfl ?_))
          · as_aux_lemma => kernel_rfl
          refine ENDOPS (NEXT (RET (PASS trivial (NIL 3 intL ?_))))
          have efin : readActS line = none := by 
            have hh : head0 (parts line 32) = x5 := by simp [head0, hx6]
            have hx : actS line = (⟨1, (optReq (readS (line.drop 4))), 0, []⟩ : Act) := by (first | (rw [actS, hh, if_pos h8, if_pos (by omega)] <;> rfl) | (rw [actS, hh, if_pos h8, if_neg (by omega)] <;> rfl))
            rw [readActS, if_neg (by omega), hx]; first | exact if_pos (by assumption) | (rw [if_neg (by assumption)]; exact if_neg (by assumption))
          refine FIN (.tuple #[.agg #[vi 0, vi 0, vi 0, vi 0, vi 0, vi 0, vi 0, vi 0, .slice none 0 0], .bool false]) ?_ (none, 0) ?_ [1] ?_
          · as_aux_lemma => kernel_rfl
          · (rw [efin] <;> rfl)
          · (rw [efin] <;> rfl)
        · -- line == ([]) = false
          have h10 := bh10
          have h10 := ne_of_beq_false h10
          refine RUN0 1 [4, 5, 6, 7] [(0, .v (.string (bs line))), (2, .p 0 0), (5, .p 1 0), (62, B false), (63, .v (.agg #[vi 1, vi ((optReq (readS (line.drop 4))).kind), vi ((optReq (readS (line.drop 4))).id), vi ((optReq (readS (line.drop 4))).cabin), vi ((optReq (readS (line.drop 4))).from'), vi ((optReq (readS (line.drop 4))).size), vi ((optReq (readS (line.drop 4))).tier), vi 0, .slice none 0 0]))] ?_ rfl ?_
          · as_aux_lemma => kernel_rfl
          refine OPC (CALL 12 #[.agg #[vi 1, vi ((optReq (readS (line.drop 4))).kind), vi ((optReq (readS (line.drop 4))).id), vi ((optReq (readS (line.drop 4))).cabin), vi ((optReq (readS (line.drop 4))).from'), vi ((optReq (readS (line.drop 4))).size), vi ((optReq (readS (line.drop 4))).tier), vi 0, .slice none 0 0]] (some 64) ?_ [] [] _ rfl (RV (.string (bs (actLine (⟨1, (optReq (readS (line.drop 4))), 0, []⟩ : Act))))) (fun w hw => sActLine_c w (⟨1, (optReq (readS (line.drop 4))), 0, []⟩ : Act) none 0 (Rd.nil _ _)) (by rintro _ ⟨⟩; exact Nat.le_of_ble_eq_true rfl) ?_)
          · as_aux_lemma => kernel_rfl
          rintro ⟨⟩
          refine RUN0 1 [6, 7] [(2, .p 0 0), (5, .p 1 0), (62, B false), (64, .v (.string (bs (actLine (⟨1, (optReq (readS (line.drop 4))), 0, []⟩ : Act))))), (65, .v (.string (bs line)))] ?_ rfl ?_
          · as_aux_lemma => kernel_rfl
          refine OPC (RUNV (.binOp .neq 9 (.tmp 64) (.tmp 65) 9) 66 4 ?_ (Nat.le_of_ble_eq_true rfl) (.bool (!((actLine (⟨1, (optReq (readS (line.drop 4))), 0, []⟩ : Act)) == line))) (runs_sneq (a := actLine (⟨1, (optReq (readS (line.drop 4))), 0, []⟩ : Act)) (b := line) ?_ ?_) ?_)
          · as_aux_lemma => kernel_rfl
          · as_aux_lemma => kernel_rfl
          · as_aux_lemma => kernel_rfl
          refine RUN0 1 [] [(2, .p 0 0), (5, .p 1 0), (67, B (!((actLine (⟨1, (optReq (readS (line.drop 4))), 0, []⟩ : Act)) == line)))] ?_ rfl ?_
          · as_aux_lemma => kernel_rfl
          refine ENDOPS (NEXT (IF (!((actLine (⟨1, (optReq (readS (line.drop 4))), 0, []⟩ : Act)) == line)) ?_ (fun bh11 => ?_) (fun bh11 => ?_)))
          · as_aux_lemma => kernel_rfl
          · -- !((actLine (⟨1, (optReq (readS (line.drop 4))), 0, []⟩ : Act)) == line) = true
            have h11 := bh11
            have h11 := notT h11
            have h11 := ne_of_beq_false h11
            refine SEQ (REGION [0, 1, 2] rfl (RUN0 3 [] [(2, .p 0 0), (3, B false)] ?_ rfl ?_))
            · as_aux_lemma => kernel_rfl
            refine ENDOPS (NEXT (RET (PASS trivial (NIL 3 intL ?_))))
            have efin : readActS line = none := by 
              have hh : head0 (parts line 32) = x5 := by simp [head0, hx6]
              have hx : actS line = (⟨1, (optReq (readS (line.drop 4))), 0, []⟩ : Act) := by (first | (rw [actS, hh, if_pos h8, if_pos (by omega)] <;> rfl) | (rw [actS, hh, if_pos h8, if_neg (by omega)] <;> rfl))
              rw [readActS, if_neg (by omega), hx]; first | exact if_pos (by assumption) | (rw [if_neg (by assumption)]; exact if_neg (by assumption))
            refine FIN (.tuple #[.agg #[vi 0, vi 0, vi 0, vi 0, vi 0, vi 0, vi 0, vi 0, .slice none 0 0], .bool false]) ?_ (none, 0) ?_ [1] ?_
            · as_aux_lemma => kernel_rfl
            · (rw [efin] <;> rfl)
            · (rw [efin] <;> rfl)
          · -- !((actLine (⟨1, (optReq (readS (line.drop 4))), 0, []⟩ : Act)) == line) = false
            have h11 := bh11
            have h11 := notF h11
            have h11 := eq_of_beq h11
            refine SKIP (NEXT (SEQ (REGION [0, 1, 2] rfl (RUN 3 [] [(2, .p 0 0), (3, B true)] [(26, [vi 1, vi ((optReq (readS (line.drop 4))).kind), vi ((optReq (readS (line.drop 4))).id), vi ((optReq (readS (line.drop 4))).cabin), vi ((optReq (readS (line.drop 4))).from'), vi ((optReq (readS (line.drop 4))).size), vi ((optReq (readS (line.drop 4))).tier), vi 0, .slice none 0 0]), (26, [vi 1, vi ((optReq (readS (line.drop 4))).kind), vi ((optReq (readS (line.drop 4))).id), vi ((optReq (readS (line.drop 4))).cabin), vi ((optReq (readS (line.drop 4))).from'), vi ((optReq (readS (line.drop 4))).size), vi ((optReq (readS (line.drop 4))).tier), vi 0, .slice none 0 0])] ?_ rfl ?_))))
            · as_aux_lemma => kernel_rfl
            refine ENDOPS (NEXT (RET (NIL 3 intL ?_)))
            have efin : readActS line = some (⟨1, (optReq (readS (line.drop 4))), 0, []⟩ : Act) := by 
              have hh : head0 (parts line 32) = x5 := by simp [head0, hx6]
              have hx : actS line = (⟨1, (optReq (readS (line.drop 4))), 0, []⟩ : Act) := by (first | (rw [actS, hh, if_pos h8, if_pos (by omega)] <;> rfl) | (rw [actS, hh, if_pos h8, if_neg (by omega)] <;> rfl))
              rw [readActS, if_neg (by omega), hx]; rw [if_neg (by assumption)]; exact if_pos (by assumption)
            refine FIN (.tuple #[.agg #[vi 1, vi ((optReq (readS (line.drop 4))).kind), vi ((optReq (readS (line.drop 4))).id), vi ((optReq (readS (line.drop 4))).cabin), vi ((optReq (readS (line.drop 4))).from'), vi ((optReq (readS (line.drop 4))).size), vi ((optReq (readS (line.drop 4))).tier), vi 0, .slice none 0 0], .bool true]) ?_ (none, 0) ?_ [1] ?_
            · as_aux_lemma => kernel_rfl
            · (rw [efin] <;> rfl)
            · (rw [efin] <;> rfl)
      · -- decide ((line.length : Int) > 4) = false
        have h9 := bh9
        have h9 := of_decide_eq_false h9
        refine SKIP (OUTN (NEXT (SEQ (SEQ (REGION [0, 1, 2, 3, 4, 5, 6, 7] rfl (RUN0 1 [1, 2, 3, 4, 5, 6, 7] [(0, .v (.string (bs line))), (2, .p 0 0), (5, .p 1 0), (60, .v (.string (bs line)))] ?_ rfl ?_))))))
        · as_aux_lemma => kernel_rfl
        refine OPC (RUNV (.binOp .eql 9 (.tmp 60) (.const (.string (bs ([])))) 9) 61 4 ?_ (Nat.le_of_ble_eq_true rfl) (.bool (line == ([]))) (runs_seql (a := line) (b := []) ?_ ?_) ?_)
        · as_aux_lemma => kernel_rfl
        · as_aux_lemma => kernel_rfl
        · as_aux_lemma => kernel_rfl
        refine RUN0 1 [3, 4, 5, 6, 7] [(0, .v (.string (bs line))), (2, .p 0 0), (5, .p 1 0), (62, B (line == ([])))] ?_ rfl ?_
        · as_aux_lemma => kernel_rfl
        refine SPLIT (d := 62) (line == ([])) ?_ (fun bh12 => ?_) (fun bh12 => ?_)
        · as_aux_lemma => kernel_rfl
        · -- line == ([]) = true
          have h12 := bh12
          have h12 := eq_of_beq h12
          refine RUN0 5 [] [(2, .p 0 0), (5, .p 1 0), (67, B true)] ?_ rfl ?_
          · as_aux_lemma => kernel_rfl
          refine ENDOPS (NEXT (IFT ?_ ?_))
          · as_aux_lemma => kernel_rfl
          refine SEQ (REGION [0, 1, 2] rfl (RUN0 3 [] [(2, .p 0 0), (3, B false)] ?_ rfl ?_))
          · as_aux_lemma => kernel_rfl
          refine ENDOPS (NEXT (RET (PASS trivial (NIL 3 intL ?_))))
          have efin : readActS line = none := by 
            have hh : head0 (parts line 32) = x5 := by simp [head0, hx6]
            have hx : actS line = (⟨0, (⟨0, 0, 0, 0, 0, 0⟩ : Req), 0, []⟩ : Act) := by (first | (rw [actS, hh, if_pos h8, if_pos (by omega)] <;> rfl) | (rw [actS, hh, if_pos h8, if_neg (by omega)] <;> rfl))
            rw [readActS, if_neg (by omega), hx]; first | exact if_pos (by assumption) | (rw [if_neg (by assumption)]; exact if_neg (by assumption))
          refine FIN (.tuple #[.agg #[vi 0, vi 0, vi 0, vi 0, vi 0, vi 0, vi 0, vi 0, .slice none 0 0], .bool false]) ?_ (none, 0) ?_ [1] ?_
          · as_aux_lemma => kernel_rfl
          · (rw [efin] <;> rfl)
          · (rw [efin] <;> rfl)
        · -- line == ([]) = false
          have h12 := bh12
          have h12 := ne_of_beq_false h12
          refine RUN0 1 [4, 5, 6, 7] [(0, .v (.string (bs line))), (2, .p 0 0), (5, .p 1 0), (62, B false), (63, .v (.agg #[vi 0, vi 0, vi 0, vi 0, vi 0, vi 0, vi 0, vi 0, .slice none 0 0]))] ?_ rfl ?_
          · as_aux_lemma => kernel_rfl
          refine OPC (CALL 12 #[.agg #[vi 0, vi 0, vi 0, vi 0, vi 0, vi 0, vi 0, vi 0, .slice none 0 0]] (some 64) ?_ [] [] _ rfl (RV (.string (bs (actLine (⟨0, (⟨0, 0, 0, 0, 0, 0⟩ : Req), 0, []⟩ : Act))))) (fun w hw => sActLine_c w (⟨0, (⟨0, 0, 0, 0, 0, 0⟩ : Req), 0, []⟩ : Act) none 0 (Rd.nil _ _)) (by rintro _ ⟨⟩; exact Nat.le_of_ble_eq_true rfl) ?_)
          · as_aux_lemma => kernel_rfl
          rintro ⟨⟩
          refine RUN0 1 [6, 7] [(2, .p 0 0), (5, .p 1 0), (62, B false), (64, .v (.string (bs (actLine (⟨0, (⟨0, 0, 0, 0, 0, 0⟩ : Req), 0, []⟩ : Act))))), (65, .v (.string (bs line)))] ?_ rfl ?_
          · as_aux_lemma => kernel_rfl
          refine OPC (RUNV (.binOp .neq 9 (.tmp 64) (.tmp 65) 9) 66 4 ?_ (Nat.le_of_ble_eq_true rfl) (.bool (!((actLine (⟨0, (⟨0, 0, 0, 0, 0, 0⟩ : Req), 0, []⟩ : Act)) == line))) (runs_sneq (a := actLine (⟨0, (⟨0, 0, 0, 0, 0, 0⟩ : Req), 0, []⟩ : Act)) (b := line) ?_ ?_) ?_)
          · as_aux_lemma => kernel_rfl
          · as_aux_lemma => kernel_rfl
          · as_aux_lemma => kernel_rfl
          refine RUN0 1 [] [(2, .p 0 0), (5, .p 1 0), (67, B (!((actLine (⟨0, (⟨0, 0, 0, 0, 0, 0⟩ : Req), 0, []⟩ : Act)) == line)))] ?_ rfl ?_
          · as_aux_lemma => kernel_rfl
          refine ENDOPS (NEXT (IF (!((actLine (⟨0, (⟨0, 0, 0, 0, 0, 0⟩ : Req), 0, []⟩ : Act)) == line)) ?_ (fun bh13 => ?_) (fun bh13 => ?_)))
          · as_aux_lemma => kernel_rfl
          · -- !((actLine (⟨0, (⟨0, 0, 0, 0, 0, 0⟩ : Req), 0, []⟩ : Act)) == line) = true
            have h13 := bh13
            have h13 := notT h13
            have h13 := ne_of_beq_false h13
            refine SEQ (REGION [0, 1, 2] rfl (RUN0 3 [] [(2, .p 0 0), (3, B false)] ?_ rfl ?_))
            · as_aux_lemma => kernel_rfl
            refine ENDOPS (NEXT (RET (PASS trivial (NIL 3 intL ?_))))
            have efin : readActS line = none := by 
              have hh : head0 (parts line 32) = x5 := by simp [head0, hx6]
              have hx : actS line = (⟨0, (⟨0, 0, 0, 0, 0, 0⟩ : Req), 0, []⟩ : Act) := by (first | (rw [actS, hh, if_pos h8, if_pos (by omega)] <;> rfl) | (rw [actS, hh, if_pos h8, if_neg (by omega)] <;> rfl))
              rw [readActS, if_neg (by omega), hx]; first | exact if_pos (by assumption) | (rw [if_neg (by assumption)]; exact if_neg (by assumption))
            refine FIN (.tuple #[.agg #[vi 0, vi 0, vi 0, vi 0, vi 0, vi 0, vi 0, vi 0, .slice none 0 0], .bool false]) ?_ (none, 0) ?_ [1] ?_
            · as_aux_lemma => kernel_rfl
            · (rw [efin] <;> rfl)
            · (rw [efin] <;> rfl)
          · -- !((actLine (⟨0, (⟨0, 0, 0, 0, 0, 0⟩ : Req), 0, []⟩ : Act)) == line) = false
            have h13 := bh13
            have h13 := notF h13
            have h13 := eq_of_beq h13
            refine SKIP (NEXT (SEQ (REGION [0, 1, 2] rfl (RUN0 3 [] [(2, .p 0 0), (3, B true)] ?_ rfl ?_))))
            · as_aux_lemma => kernel_rfl
            refine ENDOPS (NEXT (RET (NIL 3 intL ?_)))
            have efin : readActS line = some (⟨0, (⟨0, 0, 0, 0, 0, 0⟩ : Req), 0, []⟩ : Act) := by 
              have hh : head0 (parts line 32) = x5 := by simp [head0, hx6]
              have hx : actS line = (⟨0, (⟨0, 0, 0, 0, 0, 0⟩ : Req), 0, []⟩ : Act) := by (first | (rw [actS, hh, if_pos h8, if_pos (by omega)] <;> rfl) | (rw [actS, hh, if_pos h8, if_neg (by omega)] <;> rfl))
              rw [readActS, if_neg (by omega), hx]; rw [if_neg (by assumption)]; exact if_pos (by assumption)
            refine FIN (.tuple #[.agg #[vi 0, vi 0, vi 0, vi 0, vi 0, vi 0, vi 0, vi 0, .slice none 0 0], .bool true]) ?_ (none, 0) ?_ [1] ?_
            · as_aux_lemma => kernel_rfl
            · (rw [efin] <;> rfl)
            · (rw [efin] <;> rfl)
    · -- x5 == ([108, 97, 121]) = false
      have h8 := bh8
      have h8 := ne_of_beq_false h8
      refine SEQ (REGION [0, 1] rfl (OPC (RUNV (.binOp .eql 9 (.tmp 17) (.const (.string (bs ([115, 101, 97, 108])))) 9) 32 4 ?_ (Nat.le_of_ble_eq_true rfl) (.bool (x5 == ([115, 101, 97, 108]))) (runs_seql (a := x5) (b := [115, 101, 97, 108]) ?_ ?_) ?_)))
      · as_aux_lemma => kernel_rfl
      · as_aux_lemma => kernel_rfl
      · as_aux_lemma => kernel_rfl
      refine RUN0 1 [] [(0, .v (.string (bs line))), (2, .p 0 0), (4, .v (.slice a2 ((parts line 32).length) c3)), (5, .p 1 0), (17, .v (.string (bs x5))), (31, B (x5 == ([115, 101, 97, 108])))] ?_ rfl ?_
      · as_aux_lemma => kernel_rfl
      refine ENDOPS (NEXT (IF (x5 == ([115, 101, 97, 108])) ?_ (fun bh14 => ?_) (fun bh14 => ?_)))
      · as_aux_lemma => kernel_rfl
      · -- x5 == ([115, 101, 97, 108]) = true
        have h14 := bh14
        have h14 := eq_of_beq h14
        refine REGION [0, 1] rfl (RUN 2 [] [(0, .v (.string (bs line))), (2, .p 0 0), (5, .p 1 0)] [(26, [vi 0, vi 0, vi 0, vi 0, vi 0, vi 0, vi 0, vi 0, .slice none 0 0]), (26, [vi 2, vi 0, vi 0, vi 0, vi 0, vi 0, vi 0, vi 0, .slice none 0 0])] ?_ rfl ?_)
        · as_aux_lemma => kernel_rfl
        refine ENDOPS (OUTN (NEXT (SEQ (SEQ (REGION [0, 1, 2, 3, 4, 5, 6, 7] rfl (RUN0 1 [1, 2, 3, 4, 5, 6, 7] [(0, .v (.string (bs line))), (2, .p 0 0), (5, .p 1 0), (60, .v (.string (bs line)))] ?_ rfl ?_))))))
        · as_aux_lemma => kernel_rfl
        refine OPC (RUNV (.binOp .eql 9 (.tmp 60) (.const (.string (bs ([])))) 9) 61 4 ?_ (Nat.le_of_ble_eq_true rfl) (.bool (line == ([]))) (runs_seql (a := line) (b := []) ?_ ?_) ?_)
        · as_aux_lemma => kernel_rfl
        · as_aux_lemma => kernel_rfl
        · as_aux_lemma => kernel_rfl
        refine RUN0 1 [3, 4, 5, 6, 7] [(0, .v (.string (bs line))), (2, .p 0 0), (5, .p 1 0), (62, B (line == ([])))] ?_ rfl ?_
        · as_aux_lemma => kernel_rfl
        refine SPLIT (d := 62) (line == ([])) ?_ (fun bh15 => ?_) (fun bh15 => ?_)
        · as_aux_lemma => kernel_rfl
        · -- line == ([]) = true
          have h15 := bh15
          have h15 := eq_of_beq h15
          refine RUN0 5 [] [(2, .p 0 0), (5, .p 1 0), (67, B true)] ?_ rfl ?_
          · as_aux_lemma => kernel_rfl
          refine ENDOPS (NEXT (IFT ?_ ?_))
          · as_aux_lemma => kernel_rfl
          refine SEQ (REGION [0, 1, 2] rfl (RUN0 3 [] [(2, .p 0 0), (3, B false)] ?_ rfl ?_))
          · as_aux_lemma => kernel_rfl
          refine ENDOPS (NEXT (RET (PASS trivial (NIL 3 intL ?_))))
          have efin : readActS line = none := by 
            have hh : head0 (parts line 32) = x5 := by simp [head0, hx6]
            have hx : actS line = (⟨2, (⟨0, 0, 0, 0, 0, 0⟩ : Req), 0, []⟩ : Act) := by (rw [actS, hh, if_neg h8, if_pos h14] <;> rfl)
            rw [readActS, if_neg (by omega), hx]; first | exact if_pos (by assumption) | (rw [if_neg (by assumption)]; exact if_neg (by assumption))
          refine FIN (.tuple #[.agg #[vi 0, vi 0, vi 0, vi 0, vi 0, vi 0, vi 0, vi 0, .slice none 0 0], .bool false]) ?_ (none, 0) ?_ [1] ?_
          · as_aux_lemma => kernel_rfl
          · (rw [efin] <;> rfl)
          · (rw [efin] <;> rfl)
        · -- line == ([]) = false
          have h15 := bh15
          have h15 := ne_of_beq_false h15
          refine RUN0 1 [4, 5, 6, 7] [(0, .v (.string (bs line))), (2, .p 0 0), (5, .p 1 0), (62, B false), (63, .v (.agg #[vi 2, vi 0, vi 0, vi 0, vi 0, vi 0, vi 0, vi 0, .slice none 0 0]))] ?_ rfl ?_
          · as_aux_lemma => kernel_rfl
          refine OPC (CALL 12 #[.agg #[vi 2, vi 0, vi 0, vi 0, vi 0, vi 0, vi 0, vi 0, .slice none 0 0]] (some 64) ?_ [] [] _ rfl (RV (.string (bs (actLine (⟨2, (⟨0, 0, 0, 0, 0, 0⟩ : Req), 0, []⟩ : Act))))) (fun w hw => sActLine_c w (⟨2, (⟨0, 0, 0, 0, 0, 0⟩ : Req), 0, []⟩ : Act) none 0 (Rd.nil _ _)) (by rintro _ ⟨⟩; exact Nat.le_of_ble_eq_true rfl) ?_)
          · as_aux_lemma => kernel_rfl
          rintro ⟨⟩
          refine RUN0 1 [6, 7] [(2, .p 0 0), (5, .p 1 0), (62, B false), (64, .v (.string (bs (actLine (⟨2, (⟨0, 0, 0, 0, 0, 0⟩ : Req), 0, []⟩ : Act))))), (65, .v (.string (bs line)))] ?_ rfl ?_
          · as_aux_lemma => kernel_rfl
          refine OPC (RUNV (.binOp .neq 9 (.tmp 64) (.tmp 65) 9) 66 4 ?_ (Nat.le_of_ble_eq_true rfl) (.bool (!((actLine (⟨2, (⟨0, 0, 0, 0, 0, 0⟩ : Req), 0, []⟩ : Act)) == line))) (runs_sneq (a := actLine (⟨2, (⟨0, 0, 0, 0, 0, 0⟩ : Req), 0, []⟩ : Act)) (b := line) ?_ ?_) ?_)
          · as_aux_lemma => kernel_rfl
          · as_aux_lemma => kernel_rfl
          · as_aux_lemma => kernel_rfl
          refine RUN0 1 [] [(2, .p 0 0), (5, .p 1 0), (67, B (!((actLine (⟨2, (⟨0, 0, 0, 0, 0, 0⟩ : Req), 0, []⟩ : Act)) == line)))] ?_ rfl ?_
          · as_aux_lemma => kernel_rfl
          refine ENDOPS (NEXT (IF (!((actLine (⟨2, (⟨0, 0, 0, 0, 0, 0⟩ : Req), 0, []⟩ : Act)) == line)) ?_ (fun bh16 => ?_) (fun bh16 => ?_)))
          · as_aux_lemma => kernel_rfl
          · -- !((actLine (⟨2, (⟨0, 0, 0, 0, 0, 0⟩ : Req), 0, []⟩ : Act)) == line) = true
            have h16 := bh16
            have h16 := notT h16
            have h16 := ne_of_beq_false h16
            refine SEQ (REGION [0, 1, 2] rfl (RUN0 3 [] [(2, .p 0 0), (3, B false)] ?_ rfl ?_))
            · as_aux_lemma => kernel_rfl
            refine ENDOPS (NEXT (RET (PASS trivial (NIL 3 intL ?_))))
            have efin : readActS line = none := by 
              have hh : head0 (parts line 32) = x5 := by simp [head0, hx6]
              have hx : actS line = (⟨2, (⟨0, 0, 0, 0, 0, 0⟩ : Req), 0, []⟩ : Act) := by (rw [actS, hh, if_neg h8, if_pos h14] <;> rfl)
              rw [readActS, if_neg (by omega), hx]; first | exact if_pos (by assumption) | (rw [if_neg (by assumption)]; exact if_neg (by assumption))
            refine FIN (.tuple #[.agg #[vi 0, vi 0, vi 0, vi 0, vi 0, vi 0, vi 0, vi 0, .slice none 0 0], .bool false]) ?_ (none, 0) ?_ [1] ?_
            · as_aux_lemma => kernel_rfl
            · (rw [efin] <;> rfl)
            · (rw [efin] <;> rfl)
          · -- !((actLine (⟨2, (⟨0, 0, 0, 0, 0, 0⟩ : Req), 0, []⟩ : Act)) == line) = false
            have h16 := bh16
            have h16 := notF h16
            have h16 := eq_of_beq h16
            refine SKIP (NEXT (SEQ (REGION [0, 1, 2] rfl (RUN 3 [] [(2, .p 0 0), (3, B true)] [(26, [vi 2, vi 0, vi 0, vi 0, vi 0, vi 0, vi 0, vi 0, .slice none 0 0]), (26, [vi 2, vi 0, vi 0, vi 0, vi 0, vi 0, vi 0, vi 0, .slice none 0 0])] ?_ rfl ?_))))
            · as_aux_lemma => kernel_rfl
            refine ENDOPS (NEXT (RET (NIL 3 intL ?_)))
            have efin : readActS line = some (⟨2, (⟨0, 0, 0, 0, 0, 0⟩ : Req), 0, []⟩ : Act) := by 
              have hh : head0 (parts line 32) = x5 := by simp [head0, hx6]
              have hx : actS line = (⟨2, (⟨0, 0, 0, 0, 0, 0⟩ : Req), 0, []⟩ : Act) := by (rw [actS, hh, if_neg h8, if_pos h14] <;> rfl)
              rw [readActS, if_neg (by omega), hx]; rw [if_neg (by assumption)]; exact if_pos (by assumption)
            refine FIN (.tuple #[.agg #[vi 2, vi 0, vi 0, vi 0, vi 0, vi 0, vi 0, vi 0, .slice none 0 0], .bool true]) ?_ (none, 0) ?_ [1] ?_
            · as_aux_lemma => kernel_rfl
            · (rw [efin] <;> rfl)
            · (rw [efin] <;> rfl)
      · -- x5 == ([115, 101, 97, 108]) = false
        have h14 := bh14
        have h14 := ne_of_beq_false h14
        refine SEQ (SEQ (REGION [0, 1] rfl (OPC (RUNV (.binOp .eql 9 (.tmp 17) (.const (.string (bs ([109, 97, 114, 107])))) 9) 35 4 ?_ (Nat.le_of_ble_eq_true rfl) (.bool (x5 == ([109, 97, 114, 107]))) (runs_seql (a := x5) (b := [109, 97, 114, 107]) ?_ ?_) ?_))))
        · as_aux_lemma => kernel_rfl
        · as_aux_lemma => kernel_rfl
        · as_aux_lemma => kernel_rfl
        refine RUN0 1 [] [(0, .v (.string (bs line))), (2, .p 0 0), (4, .v (.slice a2 ((parts line 32).length) c3)), (5, .p 1 0), (17, .v (.string (bs x5))), (34, B (x5 == ([109, 97, 114, 107])))] ?_ rfl ?_
        · as_aux_lemma => kernel_rfl
        refine ENDOPS (NEXT (IF (x5 == ([109, 97, 114, 107])) ?_ (fun bh17 => ?_) (fun bh17 => ?_)))
        · as_aux_lemma => kernel_rfl
        · -- x5 == ([109, 97, 114, 107]) = true
          have h17 := bh17
          have h17 := eq_of_beq h17
          refine SKIP (NEXT (IF (x5 == ([109, 97, 114, 107])) ?_ (fun bh18 => ?_) (fun bh18 => ?_)))
          · as_aux_lemma => kernel_rfl
          · -- x5 == ([109, 97, 114, 107]) = true
            have h18 := bh18
            have h18 := eq_of_beq h18
            refine SEQ (REGION [0, 1, 2, 3, 4, 5, 6, 7] rfl (RUN0 1 [1, 2, 3, 4, 5, 6, 7] [(0, .v (.string (bs line))), (2, .p 0 0), (4, .v (.slice a2 ((parts line 32).length) c3)), (5, .p 1 0), (38, .v (.slice a2 ((parts line 32).length) c3))] ?_ rfl ?_))
            · as_aux_lemma => kernel_rfl
            refine FACT (((parts line 32).length) ≤ c3) (fun w hw => SlO.capE (hw.own 0 rfl)) (fun hcap19 => ?_)
            refine FACT (((parts line 32).length) = (parts line 32).length) (fun w hw => (SlO.lenE (hw.own 0 rfl)).1) (fun hln20 => ?_)
            refine OPC (CUTL 32 (.tmp 38) (.const (vi 1)) 39 32 ?_ (Nat.le_of_ble_eq_true rfl) a2 ((parts line 32).length) c3 .i64 1 ?_ ?_ 9 strL (parts line 32) ?_ ?_ (by omega) (by first | omega | (simp only [List.length_append, List.length_cons, List.length_nil, List.length_take, List.length_drop] at *; omega)) hln20 hcap19 (fun a21 hsh22 => ?_))
            · as_aux_lemma => kernel_rfl
            · as_aux_lemma => kernel_rfl
            · as_aux_lemma => kernel_rfl
            · as_aux_lemma => kernel_rfl
            · as_aux_lemma => kernel_rfl
            have hsh22 : ∀ w, Rd strL w a2 (parts line 32) → Rd strL w a21 ((parts line 32).drop 1) := hsh22
            have hln23 : ((parts line 32).drop 1).length = ((parts line 32).length) - 1 := by first | (simp; done) | (simp; omega)
            refine CAST (d := 39) (.slice a21 (((parts line 32).length) - 1) (c3 - 1)) (.slice a21 (((parts line 32).drop 1).length) (c3 - 1)) ?_ (by rw [hln23]) ?_
            · as_aux_lemma => kernel_rfl
            refine OPC (CALL 11 #[.slice a21 (((parts line 32).drop 1).length) (c3 - 1)] (some 40) ?_ [] [] _ rfl (⟨HH, fun p => .tuple #[.slice p.1 (((readArgs ((parts line 32).drop 1)).getD []).length) p.2, .bool ((readArgs ((parts line 32).drop 1)).isSome)], fun p => [slA 3 intL (.slice p.1 ((readArgs ((parts line 32).drop 1)).getD []).length p.2) ((readArgs ((parts line 32).drop 1)).getD [])]⟩) (fun w hw => l29Nums_c w ((parts line 32).drop 1) a21 (c3 - 1) (hsh22 _ (Rd.own (hw.own 0 rfl))) (by first | omega | (simp; omega))) (by rintro _ ⟨⟩; exact Nat.le_of_ble_eq_true rfl) ?_)
            · as_aux_lemma => kernel_rfl
            rintro ⟨a24, c25⟩
            refine RUN0 5 [] [(0, .v (.string (bs line))), (2, .p 0 0), (4, .v (.slice a2 ((parts line 32).length) c3)), (5, .p 1 0), (6, .v (.slice a24 (((readArgs ((parts line 32).drop 1)).getD []).length) c25))] ?_ rfl ?_
            · as_aux_lemma => kernel_rfl
            refine ENDOPS (NEXT (SEQ (REGION [0, 1] rfl (RUN 2 [] [(0, .v (.string (bs line))), (2, .p 0 0), (4, .v (.slice a2 ((parts line 32).length) c3)), (5, .p 1 0), (6, .v (.slice a24 (((readArgs ((parts line 32).drop 1)).getD []).length) c25))] [(26, [vi 0, vi 0, vi 0, vi 0, vi 0, vi 0, vi 0, vi 0, .slice none 0 0]), (26, [vi 4, vi 0, vi 0, vi 0, vi 0, vi 0, vi 0, vi 0, .slice none 0 0])] ?_ rfl ?_))))
            · as_aux_lemma => kernel_rfl
            refine ENDOPS (NEXT (SEQ (REGION [0, 1, 2] rfl (RUN 3 [] [(0, .v (.string (bs line))), (2, .p 0 0), (4, .v (.slice a2 ((parts line 32).length) c3)), (5, .p 1 0), (6, .v (.slice a24 (((readArgs ((parts line 32).drop 1)).getD []).length) c25))] [(26, [vi 0, vi 0, vi 0, vi 0, vi 0, vi 0, vi 0, vi 0, .slice none 0 0]), (26, [vi 4, vi 0, vi 0, vi 0, vi 0, vi 0, vi 0, vi 0, .slice a24 (((readArgs ((parts line 32).drop 1)).getD []).length) c25])] ?_ rfl ?_))))
            · as_aux_lemma => kernel_rfl
            refine ENDOPS (NEXT (SEQ (REGION [0, 1, 2, 3] rfl (RUN0 1 [1, 2, 3] [(0, .v (.string (bs line))), (2, .p 0 0), (5, .p 1 0), (6, .v (.slice a24 (((readArgs ((parts line 32).drop 1)).getD []).length) c25)), (46, .v (.slice a2 ((parts line 32).length) c3))] ?_ rfl ?_))))
            · as_aux_lemma => kernel_rfl
            refine FACT (a2.isSome = true) (fun w hw => SlO.isS (hw.own 0 rfl) (by omega)) (fun hs26 => ?_)
            refine OPC (INDEX 32 (.tmp 46) (.const (vi 0)) 47 0 ?_ (Nat.le_of_ble_eq_true rfl) a2 ((parts line 32).length) c3 .i64 0 9 1 ?_ ?_ ?_ ?_ hs26 (by omega) (by omega) ?_)
            · as_aux_lemma => kernel_rfl
            · as_aux_lemma => kernel_rfl
            · as_aux_lemma => kernel_rfl
            · as_aux_lemma => kernel_rfl
            · as_aux_lemma => kernel_rfl
            refine OPC (LOADE 9 (.tmp 47) 48 9 ?_ (Nat.le_of_ble_eq_true rfl) a2 (0 * 1) 0 [.string (bs x5)] (.string (bs x5)) ?_ (fun w hw => (Rd.own (hw.own 0 rfl)).flat hx6) ?_ ?_)
            · as_aux_lemma => kernel_rfl
            · as_aux_lemma => kernel_rfl
            · as_aux_lemma => kernel_rfl
            refine OPC (RUNV (.binOp .eql 9 (.tmp 48) (.const (.string (bs ([109, 97, 114, 107])))) 9) 49 4 ?_ (Nat.le_of_ble_eq_true rfl) (.bool (x5 == ([109, 97, 114, 107]))) (runs_seql (a := x5) (b := [109, 97, 114, 107]) ?_ ?_) ?_)
            · as_aux_lemma => kernel_rfl
            · as_aux_lemma => kernel_rfl
            · as_aux_lemma => kernel_rfl
            refine ENDOPS (NEXT (IF (x5 == ([109, 97, 114, 107])) ?_ (fun bh27 => ?_) (fun bh27 => ?_)))
            · as_aux_lemma => kernel_rfl
            · -- x5 == ([109, 97, 114, 107]) = true
              have h27 := bh27
              have h27 := eq_of_beq h27
              refine SEQ (REGION [0, 1] rfl (RUN 2 [] [(0, .v (.string (bs line))), (2, .p 0 0), (5, .p 1 0), (6, .v (.slice a24 (((readArgs ((parts line 32).drop 1)).getD []).length) c25))] [(26, [vi 0, vi 0, vi 0, vi 0, vi 0, vi 0, vi 0, vi 0, .slice none 0 0]), (26, [vi 3, vi 0, vi 0, vi 0, vi 0, vi 0, vi 0, vi 0, .slice a24 (((readArgs ((parts line 32).drop 1)).getD []).length) c25])] ?_ rfl ?_))
              · as_aux_lemma => kernel_rfl
              refine ENDOPS (NEXT (SEQ (REGION [0, 1, 2] rfl (OPC (BUILDS 24 0 #[] 51 24 ?_ (Nat.le_of_ble_eq_true rfl) 3 [] ?_ intL [] rfl (by simp only [maxLen]; omega) [] [] _ rfl (flatRep rfl) (fun a28 ha29 => ?_))))))
              · as_aux_lemma => kernel_rfl
              · as_aux_lemma => kernel_rfl
              refine RUN 2 [] [(0, .v (.string (bs line))), (2, .p 0 0), (5, .p 1 0), (6, .v (.slice a24 (((readArgs ((parts line 32).drop 1)).getD []).length) c25))] [(26, [vi 0, vi 0, vi 0, vi 0, vi 0, vi 0, vi 0, vi 0, .slice none 0 0]), (26, [vi 3, vi 0, vi 0, vi 0, vi 0, vi 0, vi 0, vi 0, .slice a28 0 0])] ?_ rfl ?_
              · as_aux_lemma => kernel_rfl
              refine ENDOPS (NEXT (SEQ (REGION [0, 1, 2] rfl (RUN0 3 [] [(0, .v (.string (bs line))), (2, .p 0 0), (5, .p 1 0), (6, .v (.slice a24 (((readArgs ((parts line 32).drop 1)).getD []).length) c25)), (55, B (decide (((((readArgs ((parts line 32).drop 1)).getD []).length : Nat) : Int) > 0)))] ?_ rfl ?_))))
              · as_aux_lemma => kernel_rfl
              refine ENDOPS (NEXT (IF (decide (((((readArgs ((parts line 32).drop 1)).getD []).length : Nat) : Int) > 0)) ?_ (fun bh30 => ?_) (fun bh30 => ?_)))
              · as_aux_lemma => kernel_rfl
              · -- decide (((((readArgs ((parts line 32).drop 1)).getD []).length : Nat) : Int) > 0) = true
                have h30 := bh30
                have h30 := of_decide_eq_true h30
                refine REGION [0, 1, 2, 3, 4] rfl (RUN0 1 [1, 2, 3, 4] [(0, .v (.string (bs line))), (2, .p 0 0), (5, .p 1 0), (56, .v (.slice a24 (((readArgs ((parts line 32).drop 1)).getD []).length) c25))] ?_ rfl ?_)
                · as_aux_lemma => kernel_rfl
                obtain ⟨x31, hx32⟩ : ∃ y, ((readArgs ((parts line 32).drop 1)).getD [])[0]? = some y := ⟨_, List.getElem?_eq_getElem (by omega)⟩
                refine FACT (a24.isSome = true) (fun w hw => SlO.isS (hw.own 1 rfl) (by omega)) (fun hs33 => ?_)
                refine OPC (INDEX 24 (.tmp 56) (.const (vi 0)) 57 0 ?_ (Nat.le_of_ble_eq_true rfl) a24 (((readArgs ((parts line 32).drop 1)).getD []).length) c25 .i64 0 3 1 ?_ ?_ ?_ ?_ hs33 (by omega) (by omega) ?_)
                · as_aux_lemma => kernel_rfl
                · as_aux_lemma => kernel_rfl
                · as_aux_lemma => kernel_rfl
                · as_aux_lemma => kernel_rfl
                · as_aux_lemma => kernel_rfl
                refine OPC (LOADE 3 (.tmp 57) 58 3 ?_ (Nat.le_of_ble_eq_true rfl) a24 (0 * 1) 0 [vi x31] (vi x31) ?_ (fun w hw => (Rd.own (hw.own 1 rfl)).flat hx32) ?_ ?_)
                · as_aux_lemma => kernel_rfl
                · as_aux_lemma => kernel_rfl
                · as_aux_lemma => kernel_rfl
                refine RUN 2 [] [(0, .v (.string (bs line))), (2, .p 0 0), (5, .p 1 0)] [(26, [vi 0, vi 0, vi 0, vi 0, vi 0, vi 0, vi 0, vi 0, .slice none 0 0]), (26, [vi 3, vi 0, vi 0, vi 0, vi 0, vi 0, vi 0, vi x31, .slice a28 0 0])] ?_ rfl ?_
                · as_aux_lemma => kernel_rfl
                refine ENDOPS (OUTN (NEXT (SEQ (SEQ (REGION [0, 1, 2, 3, 4, 5, 6, 7] rfl (RUN0 1 [1, 2, 3, 4, 5, 6, 7] [(0, .v (.string (bs line))), (2, .p 0 0), (5, .p 1 0), (60, .v (.string (bs line)))] ?_ rfl ?_))))))
                · as_aux_lemma => kernel_rfl
                refine OPC (RUNV (.binOp .eql 9 (.tmp 60) (.const (.string (bs ([])))) 9) 61 4 ?_ (Nat.le_of_ble_eq_true rfl) (.bool (line == ([]))) (runs_seql (a := line) (b := []) ?_ ?_) ?_)
                · as_aux_lemma => kernel_rfl
                · as_aux_lemma => kernel_rfl
                · as_aux_lemma => kernel_rfl
                refine RUN0 1 [3, 4, 5, 6, 7] [(0, .v (.string (bs line))), (2, .p 0 0), (5, .p 1 0), (62, B (line == ([])))] ?_ rfl ?_
                · as_aux_lemma => kernel_rfl
                refine SPLIT (d := 62) (line == ([])) ?_ (fun bh34 => ?_) (fun bh34 => ?_)
                · as_aux_lemma => kernel_rfl
                · -- line == ([]) = true
                  have h34 := bh34
                  have h34 := eq_of_beq h34
                  refine RUN0 5 [] [(2, .p 0 0), (5, .p 1 0), (67, B true)] ?_ rfl ?_
                  · as_aux_lemma => kernel_rfl
                  refine ENDOPS (NEXT (IFT ?_ ?_))
                  · as_aux_lemma => kernel_rfl
                  refine SEQ (REGION [0, 1, 2] rfl (RUN0 3 [] [(2, .p 0 0), (3, B false)] ?_ rfl ?_))
                  · as_aux_lemma => kernel_rfl
                  refine ENDOPS (NEXT (RET (PASS trivial (NIL 3 intL ?_))))
                  have efin : readActS line = none := by 
                    have hh : head0 (parts line 32) = x5 := by simp [head0, hx6]
                    have hx : actS line = (⟨3, (⟨0, 0, 0, 0, 0, 0⟩ : Req), x31, []⟩ : Act) := by (rw [actS, hh, if_neg h8, if_neg h14, if_pos h27, show at5 (nums line) 0 = _ from (at5_of hx32).symm])
                    rw [readActS, if_neg (by omega), hx]; first | exact if_pos (by assumption) | (rw [if_neg (by assumption)]; exact if_neg (by assumption))
                  refine FIN (.tuple #[.agg #[vi 0, vi 0, vi 0, vi 0, vi 0, vi 0, vi 0, vi 0, .slice none 0 0], .bool false]) ?_ (none, 0) ?_ [3] ?_
                  · as_aux_lemma => kernel_rfl
                  · (rw [efin] <;> rfl)
                  · (rw [efin] <;> rfl)
                · -- line == ([]) = false
                  have h34 := bh34
                  have h34 := ne_of_beq_false h34
                  refine RUN0 1 [4, 5, 6, 7] [(0, .v (.string (bs line))), (2, .p 0 0), (5, .p 1 0), (62, B false), (63, .v (.agg #[vi 3, vi 0, vi 0, vi 0, vi 0, vi 0, vi 0, vi x31, .slice a28 0 0]))] ?_ rfl ?_
                  · as_aux_lemma => kernel_rfl
                  refine OPC (CALL 12 #[.agg #[vi 3, vi 0, vi 0, vi 0, vi 0, vi 0, vi 0, vi x31, .slice a28 0 0]] (some 64) ?_ [] [] _ rfl (RV (.string (bs (actLine (⟨3, (⟨0, 0, 0, 0, 0, 0⟩ : Req), x31, []⟩ : Act))))) (fun w hw => sActLine_c w (⟨3, (⟨0, 0, 0, 0, 0, 0⟩ : Req), x31, []⟩ : Act) a28 0 (Rd.own (hw.own 2 rfl))) (by rintro _ ⟨⟩; exact Nat.le_of_ble_eq_true rfl) ?_)
                  · as_aux_lemma => kernel_rfl
                  rintro ⟨⟩
                  refine RUN0 1 [6, 7] [(2, .p 0 0), (5, .p 1 0), (62, B false), (64, .v (.string (bs (actLine (⟨3, (⟨0, 0, 0, 0, 0, 0⟩ : Req), x31, []⟩ : Act))))), (65, .v (.string (bs line)))] ?_ rfl ?_
                  · as_aux_lemma => kernel_rfl
                  refine OPC (RUNV (.binOp .neq 9 (.tmp 64) (.tmp 65) 9) 66 4 ?_ (Nat.le_of_ble_eq_true rfl) (.bool (!((actLine (⟨3, (⟨0, 0, 0, 0, 0, 0⟩ : Req), x31, []⟩ : Act)) == line))) (runs_sneq (a := actLine (⟨3, (⟨0, 0, 0, 0, 0, 0⟩ : Req), x31, []⟩ : Act)) (b := line) ?_ ?_) ?_)
                  · as_aux_lemma => kernel_rfl
                  · as_aux_lemma => kernel_rfl
                  · as_aux_lemma => kernel_rfl
                  refine RUN0 1 [] [(2, .p 0 0), (5, .p 1 0), (67, B (!((actLine (⟨3, (⟨0, 0, 0, 0, 0, 0⟩ : Req), x31, []⟩ : Act)) == line)))] ?_ rfl ?_
                  · as_aux_lemma => kernel_rfl
                  refine ENDOPS (NEXT (IF (!((actLine (⟨3, (⟨0, 0, 0, 0, 0, 0⟩ : Req), x31, []⟩ : Act)) == line)) ?_ (fun bh35 => ?_) (fun bh35 => ?_)))
                  · as_aux_lemma => kernel_rfl
                  · -- !((actLine (⟨3, (⟨0, 0, 0, 0, 0, 0⟩ : Req), x31, []⟩ : Act)) == line) = true
                    have h35 := bh35
                    have h35 := notT h35
                    have h35 := ne_of_beq_false h35
                    refine SEQ (REGION [0, 1, 2] rfl (RUN0 3 [] [(2, .p 0 0), (3, B false)] ?_ rfl ?_))
                    · as_aux_lemma => kernel_rfl
                    refine ENDOPS (NEXT (RET (PASS trivial (NIL 3 intL ?_))))
                    have efin : readActS line = none := by 
                      have hh : head0 (parts line 32) = x5 := by simp [head0, hx6]
                      have hx : actS line = (⟨3, (⟨0, 0, 0, 0, 0, 0⟩ : Req), x31, []⟩ : Act) := by (rw [actS, hh, if_neg h8, if_neg h14, if_pos h27, show at5 (nums line) 0 = _ from (at5_of hx32).symm])
                      rw [readActS, if_neg (by omega), hx]; first | exact if_pos (by assumption) | (rw [if_neg (by assumption)]; exact if_neg (by assumption))
                    refine FIN (.tuple #[.agg #[vi 0, vi 0, vi 0, vi 0, vi 0, vi 0, vi 0, vi 0, .slice none 0 0], .bool false]) ?_ (none, 0) ?_ [3] ?_
                    · as_aux_lemma => kernel_rfl
                    · (rw [efin] <;> rfl)
                    · (rw [efin] <;> rfl)
                  · -- !((actLine (⟨3, (⟨0, 0, 0, 0, 0, 0⟩ : Req), x31, []⟩ : Act)) == line) = false
                    have h35 := bh35
                    have h35 := notF h35
                    have h35 := eq_of_beq h35
                    refine SKIP (NEXT (SEQ (REGION [0, 1, 2] rfl (RUN 3 [] [(2, .p 0 0), (3, B true)] [(26, [vi 3, vi 0, vi 0, vi 0, vi 0, vi 0, vi 0, vi x31, .slice a28 0 0]), (26, [vi 3, vi 0, vi 0, vi 0, vi 0, vi 0, vi 0, vi x31, .slice a28 0 0])] ?_ rfl ?_))))
                    · as_aux_lemma => kernel_rfl
                    refine ENDOPS (NEXT (RET ?_))
                    have efin : readActS line = some (⟨3, (⟨0, 0, 0, 0, 0, 0⟩ : Req), x31, []⟩ : Act) := by 
                      have hh : head0 (parts line 32) = x5 := by simp [head0, hx6]
                      have hx : actS line = (⟨3, (⟨0, 0, 0, 0, 0, 0⟩ : Req), x31, []⟩ : Act) := by (rw [actS, hh, if_neg h8, if_neg h14, if_pos h27, show at5 (nums line) 0 = _ from (at5_of hx32).symm])
                      rw [readActS, if_neg (by omega), hx]; rw [if_neg (by assumption)]; exact if_pos (by assumption)
                    refine FIN (.tuple #[.agg #[vi 3, vi 0, vi 0, vi 0, vi 0, vi 0, vi 0, vi x31, .slice a28 0 0], .bool true]) ?_ (a28, 0) ?_ [2] ?_
                    · as_aux_lemma => kernel_rfl
                    · (rw [efin] <;> rfl)
                    · (rw [efin] <;> rfl)
              · -- decide (((((readArgs ((parts line 32).drop 1)).getD []).length : Nat) : Int) > 0) = false
                have h30 := bh30
                have h30 := of_decide_eq_false h30
                refine SKIP (OUTN (NEXT (SEQ (SEQ (REGION [0, 1, 2, 3, 4, 5, 6, 7] rfl (RUN0 1 [1, 2, 3, 4, 5, 6, 7] [(0, .v (.string (bs line))), (2, .p 0 0), (5, .p 1 0), (60, .v (.string (bs line)))] ?_ rfl ?_))))))
                · as_aux_lemma => kernel_rfl
                refine OPC (RUNV (.binOp .eql 9 (.tmp 60) (.const (.string (bs ([])))) 9) 61 4 ?_ (Nat.le_of_ble_eq_true rfl) (.bool (line == ([]))) (runs_seql (a := line) (b := []) ?_ ?_) ?_)
                · as_aux_lemma => kernel_rfl
                · as_aux_lemma => kernel_rfl
                · as_aux_lemma => kernel_rfl
                refine RUN0 1 [3, 4, 5, 6, 7] [(0, .v (.string (bs line))), (2, .p 0 0), (5, .p 1 0), (62, B (line == ([])))] ?_ rfl ?_
                · as_aux_lemma => kernel_rfl
                refine SPLIT (d := 62) (line == ([])) ?_ (fun bh36 => ?_) (fun bh36 => ?_)
                · as_aux_lemma => kernel_rfl
                · -- line == ([]) = true
                  have h36 := bh36
                  have h36 := eq_of_beq h36
                  refine RUN0 5 [] [(2, .p 0 0), (5, .p 1 0), (67, B true)] ?_ rfl ?_
                  · as_aux_lemma => kernel_rfl
                  refine ENDOPS (NEXT (IFT ?_ ?_))
                  · as_aux_lemma => kernel_rfl
                  refine SEQ (REGION [0, 1, 2] rfl (RUN0 3 [] [(2, .p 0 0), (3, B false)] ?_ rfl ?_))
                  · as_aux_lemma => kernel_rfl
                  refine ENDOPS (NEXT (RET (PASS trivial (NIL 3 intL ?_))))
                  have efin : readActS line = none := by 
                    have hh : head0 (parts line 32) = x5 := by simp [head0, hx6]
                    have hx : actS line = (⟨3, (⟨0, 0, 0, 0, 0, 0⟩ : Req), 0, []⟩ : Act) := by (rw [actS, hh, if_neg h8, if_neg h14, if_pos h27, show at5 (nums line) 0 = 0 from at5_none (show ¬ 0 < ((readArgs ((parts line 32).drop 1)).getD []).length by omega)])
                    rw [readActS, if_neg (by omega), hx]; first | exact if_pos (by assumption) | (rw [if_neg (by assumption)]; exact if_neg (by assumption))
                  refine FIN (.tuple #[.agg #[vi 0, vi 0, vi 0, vi 0, vi 0, vi 0, vi 0, vi 0, .slice none 0 0], .bool false]) ?_ (none, 0) ?_ [3] ?_
                  · as_aux_lemma => kernel_rfl
                  · (rw [efin] <;> rfl)
                  · (rw [efin] <;> rfl)
                · -- line == ([]) = false
                  have h36 := bh36
                  have h36 := ne_of_beq_false h36
                  refine RUN0 1 [4, 5, 6, 7] [(0, .v (.string (bs line))), (2, .p 0 0), (5, .p 1 0), (62, B false), (63, .v (.agg #[vi 3, vi 0, vi 0, vi 0, vi 0, vi 0, vi 0, vi 0, .slice a28 0 0]))] ?_ rfl ?_
                  · as_aux_lemma => kernel_rfl
                  refine OPC (CALL 12 #[.agg #[vi 3, vi 0, vi 0, vi 0, vi 0, vi 0, vi 0, vi 0, .slice a28 0 0]] (some 64) ?_ [] [] _ rfl (RV (.string (bs (actLine (⟨3, (⟨0, 0, 0, 0, 0, 0⟩ : Req), 0, []⟩ : Act))))) (fun w hw => sActLine_c w (⟨3, (⟨0, 0, 0, 0, 0, 0⟩ : Req), 0, []⟩ : Act) a28 0 (Rd.own (hw.own 2 rfl))) (by rintro _ ⟨⟩; exact Nat.le_of_ble_eq_true rfl) ?_)
                  · as_aux_lemma => kernel_rfl
                  rintro ⟨⟩
                  refine RUN0 1 [6, 7] [(2, .p 0 0), (5, .p 1 0), (62, B false), (64, .v (.string (bs (actLine (⟨3, (⟨0, 0, 0, 0, 0, 0⟩ : Req), 0, []⟩ : Act))))), (65, .v (.string (bs line)))] ?_ rfl ?_
                  · as_aux_lemma => kernel_rfl
                  refine OPC (RUNV (.binOp .neq 9 (.tmp 64) (.tmp 65) 9) 66 4 ?_ (Nat.le_of_ble_eq_true rfl) (.bool (!((actLine (⟨3, (⟨0, 0, 0, 0, 0, 0⟩ : Req), 0, []⟩ : Act)) == line))) (runs_sneq (a := actLine (⟨3, (⟨0, 0, 0, 0, 0, 0⟩ : Req), 0, []⟩ : Act)) (b := line) ?_ ?_) ?_)
                  · as_aux_lemma => kernel_rfl
                  · as_aux_lemma => kernel_rfl
                  · as_aux_lemma => kernel_rfl
                  refine RUN0 1 [] [(2, .p 0 0), (5, .p 1 0), (67, B (!((actLine (⟨3, (⟨0, 0, 0, 0, 0, 0⟩ : Req), 0, []⟩ : Act)) == line)))] ?_ rfl ?_
                  · as_aux_lemma => kernel_rfl
                  refine ENDOPS (NEXT (IF (!((actLine (⟨3, (⟨0, 0, 0, 0, 0, 0⟩ : Req), 0, []⟩ : Act)) == line)) ?_ (fun bh37 => ?_) (fun bh37 => ?_)))
                  · as_aux_lemma => kernel_rfl
                  · -- !((actLine (⟨3, (⟨0, 0, 0, 0, 0, 0⟩ : Req), 0, []⟩ : Act)) == line) = true
                    have h37 := bh37
                    have h37 := notT h37
                    have h37 := ne_of_beq_false h37
                    refine SEQ (REGION [0, 1, 2] rfl (RUN0 3 [] [(2, .p 0 0), (3, B false)] ?_ rfl ?_))
                    · as_aux_lemma => kernel_rfl
                    refine ENDOPS (NEXT (RET (PASS trivial (NIL 3 intL ?_))))
                    have efin : readActS line = none := by 
                      have hh : head0 (parts line 32) = x5 := by simp [head0, hx6]
                      have hx : actS line = (⟨3, (⟨0, 0, 0, 0, 0, 0⟩ : Req), 0, []⟩ : Act) := by (rw [actS, hh, if_neg h8, if_neg h14, if_pos h27, show at5 (nums line) 0 = 0 from at5_none (show ¬ 0 < ((readArgs ((parts line 32).drop 1)).getD []).length by omega)])
                      rw [readActS, if_neg (by omega), hx]; first | exact if_pos (by assumption) | (rw [if_neg (by assumption)]; exact if_neg (by assumption))
                    refine FIN (.tuple #[.agg #[vi 0, vi 0, vi 0, vi 0, vi 0, vi 0, vi 0, vi 0, .slice none 0 0], .bool false]) ?_ (none, 0) ?_ [3] ?_
                    · as_aux_lemma => kernel_rfl
                    · (rw [efin] <;> rfl)
                    · (rw [efin] <;> rfl)
                  · -- !((actLine (⟨3, (⟨0, 0, 0, 0, 0, 0⟩ : Req), 0, []⟩ : Act)) == line) = false
                    have h37 := bh37
                    have h37 := notF h37
                    have h37 := eq_of_beq h37
                    refine SKIP (NEXT (SEQ (REGION [0, 1, 2] rfl (RUN 3 [] [(2, .p 0 0), (3, B true)] [(26, [vi 3, vi 0, vi 0, vi 0, vi 0, vi 0, vi 0, vi 0, .slice a28 0 0]), (26, [vi 3, vi 0, vi 0, vi 0, vi 0, vi 0, vi 0, vi 0, .slice a28 0 0])] ?_ rfl ?_))))
                    · as_aux_lemma => kernel_rfl
                    refine ENDOPS (NEXT (RET ?_))
                    have efin : readActS line = some (⟨3, (⟨0, 0, 0, 0, 0, 0⟩ : Req), 0, []⟩ : Act) := by 
                      have hh : head0 (parts line 32) = x5 := by simp [head0, hx6]
                      have hx : actS line = (⟨3, (⟨0, 0, 0, 0, 0, 0⟩ : Req), 0, []⟩ : Act) := by (rw [actS, hh, if_neg h8, if_neg h14, if_pos h27, show at5 (nums line) 0 = 0 from at5_none (show ¬ 0 < ((readArgs ((parts line 32).drop 1)).getD []).length by omega)])
                      rw [readActS, if_neg (by omega), hx]; rw [if_neg (by assumption)]; exact if_pos (by assumption)
                    refine FIN (.tuple #[.agg #[vi 3, vi 0, vi 0, vi 0, vi 0, vi 0, vi 0, vi 0, .slice a28 0 0], .bool true]) ?_ (a28, 0) ?_ [2] ?_
                    · as_aux_lemma => kernel_rfl
                    · (rw [efin] <;> rfl)
                    · (rw [efin] <;> rfl)
            · exact Bool.noConfusion (bh18.symm.trans bh27)
          · exact Bool.noConfusion (bh17.symm.trans bh18)
        · -- x5 == ([109, 97, 114, 107]) = false
          have h17 := bh17
          have h17 := ne_of_beq_false h17
          refine REGION [0, 1] rfl (OPC (RUNV (.binOp .eql 9 (.tmp 17) (.const (.string (bs ([102, 97, 108, 108])))) 9) 36 4 ?_ (Nat.le_of_ble_eq_true rfl) (.bool (x5 == ([102, 97, 108, 108]))) (runs_seql (a := x5) (b := [102, 97, 108, 108]) ?_ ?_) ?_))
          · as_aux_lemma => kernel_rfl
          · as_aux_lemma => kernel_rfl
          · as_aux_lemma => kernel_rfl
          refine RUN0 1 [] [(0, .v (.string (bs line))), (2, .p 0 0), (4, .v (.slice a2 ((parts line 32).length) c3)), (5, .p 1 0), (34, B (x5 == ([102, 97, 108, 108])))] ?_ rfl ?_
          · as_aux_lemma => kernel_rfl
          refine ENDOPS (NEXT (IF (x5 == ([102, 97, 108, 108])) ?_ (fun bh38 => ?_) (fun bh38 => ?_)))
          · as_aux_lemma => kernel_rfl
          · -- x5 == ([102, 97, 108, 108]) = true
            have h38 := bh38
            have h38 := eq_of_beq h38
            refine SEQ (REGION [0, 1, 2, 3, 4, 5, 6, 7] rfl (RUN0 1 [1, 2, 3, 4, 5, 6, 7] [(0, .v (.string (bs line))), (2, .p 0 0), (4, .v (.slice a2 ((parts line 32).length) c3)), (5, .p 1 0), (38, .v (.slice a2 ((parts line 32).length) c3))] ?_ rfl ?_))
            · as_aux_lemma => kernel_rfl
            refine FACT (((parts line 32).length) ≤ c3) (fun w hw => SlO.capE (hw.own 0 rfl)) (fun hcap39 => ?_)
            refine FACT (((parts line 32).length) = (parts line 32).length) (fun w hw => (SlO.lenE (hw.own 0 rfl)).1) (fun hln40 => ?_)
            refine OPC (CUTL 32 (.tmp 38) (.const (vi 1)) 39 32 ?_ (Nat.le_of_ble_eq_true rfl) a2 ((parts line 32).length) c3 .i64 1 ?_ ?_ 9 strL (parts line 32) ?_ ?_ (by omega) (by first | omega | (simp only [List.length_append, List.length_cons, List.length_nil, List.length_take, List.length_drop] at *; omega)) hln40 hcap39 (fun a41 hsh42 => ?_))
            · as_aux_lemma => kernel_rfl
            · as_aux_lemma => kernel_rfl
            · as_aux_lemma => kernel_rfl
            · as_aux_lemma => kernel_rfl
            · as_aux_lemma => kernel_rfl
            have hsh42 : ∀ w, Rd strL w a2 (parts line 32) → Rd strL w a41 ((parts line 32).drop 1) := hsh42
            have hln43 : ((parts line 32).drop 1).length = ((parts line 32).length) - 1 := by first | (simp; done) | (simp; omega)
            refine CAST (d := 39) (.slice a41 (((parts line 32).length) - 1) (c3 - 1)) (.slice a41 (((parts line 32).drop 1).length) (c3 - 1)) ?_ (by rw [hln43]) ?_
            · as_aux_lemma => kernel_rfl
            refine OPC (CALL 11 #[.slice a41 (((parts line 32).drop 1).length) (c3 - 1)] (some 40) ?_ [] [] _ rfl (⟨HH, fun p => .tuple #[.slice p.1 (((readArgs ((parts line 32).drop 1)).getD []).length) p.2, .bool ((readArgs ((parts line 32).drop 1)).isSome)], fun p => [slA 3 intL (.slice p.1 ((readArgs ((parts line 32).drop 1)).getD []).length p.2) ((readArgs ((parts line 32).drop 1)).getD [])]⟩) (fun w hw => l29Nums_c w ((parts line 32).drop 1) a41 (c3 - 1) (hsh42 _ (Rd.own (hw.own 0 rfl))) (by first | omega | (simp; omega))) (by rintro _ ⟨⟩; exact Nat.le_of_ble_eq_true rfl) ?_)
            · as_aux_lemma => kernel_rfl
            rintro ⟨a44, c45⟩
            refine RUN0 5 [] [(0, .v (.string (bs line))), (2, .p 0 0), (4, .v (.slice a2 ((parts line 32).length) c3)), (5, .p 1 0), (6, .v (.slice a44 (((readArgs ((parts line 32).drop 1)).getD []).length) c45))] ?_ rfl ?_
            · as_aux_lemma => kernel_rfl
            refine ENDOPS (NEXT (SEQ (REGION [0, 1] rfl (RUN 2 [] [(0, .v (.string (bs line))), (2, .p 0 0), (4, .v (.slice a2 ((parts line 32).length) c3)), (5, .p 1 0), (6, .v (.slice a44 (((readArgs ((parts line 32).drop 1)).getD []).length) c45))] [(26, [vi 0, vi 0, vi 0, vi 0, vi 0, vi 0, vi 0, vi 0, .slice none 0 0]), (26, [vi 4, vi 0, vi 0, vi 0, vi 0, vi 0, vi 0, vi 0, .slice none 0 0])] ?_ rfl ?_))))
            · as_aux_lemma => kernel_rfl
            refine ENDOPS (NEXT (SEQ (REGION [0, 1, 2] rfl (RUN 3 [] [(0, .v (.string (bs line))), (2, .p 0 0), (4, .v (.slice a2 ((parts line 32).length) c3)), (5, .p 1 0), (6, .v (.slice a44 (((readArgs ((parts line 32).drop 1)).getD []).length) c45))] [(26, [vi 0, vi 0, vi 0, vi 0, vi 0, vi 0, vi 0, vi 0, .slice none 0 0]), (26, [vi 4, vi 0, vi 0, vi 0, vi 0, vi 0, vi 0, vi 0, .slice a44 (((readArgs ((parts line 32).drop 1)).getD []).length) c45])] ?_ rfl ?_))))
            · as_aux_lemma => kernel_rfl
            refine ENDOPS (NEXT (SEQ (REGION [0, 1, 2, 3] rfl (RUN0 1 [1, 2, 3] [(0, .v (.string (bs line))), (2, .p 0 0), (5, .p 1 0), (6, .v (.slice a44 (((readArgs ((parts line 32).drop 1)).getD []).length) c45)), (46, .v (.slice a2 ((parts line 32).length) c3))] ?_ rfl ?_))))
            · as_aux_lemma => kernel_rfl
            refine FACT (a2.isSome = true) (fun w hw => SlO.isS (hw.own 0 rfl) (by omega)) (fun hs46 => ?_)
            refine OPC (INDEX 32 (.tmp 46) (.const (vi 0)) 47 0 ?_ (Nat.le_of_ble_eq_true rfl) a2 ((parts line 32).length) c3 .i64 0 9 1 ?_ ?_ ?_ ?_ hs46 (by omega) (by omega) ?_)
            · as_aux_lemma => kernel_rfl
            · as_aux_lemma => kernel_rfl
            · as_aux_lemma => kernel_rfl
            · as_aux_lemma => kernel_rfl
            · as_aux_lemma => kernel_rfl
            refine OPC (LOADE 9 (.tmp 47) 48 9 ?_ (Nat.le_of_ble_eq_true rfl) a2 (0 * 1) 0 [.string (bs x5)] (.string (bs x5)) ?_ (fun w hw => (Rd.own (hw.own 0 rfl)).flat hx6) ?_ ?_)
            · as_aux_lemma => kernel_rfl
            · as_aux_lemma => kernel_rfl
            · as_aux_lemma => kernel_rfl
            refine OPC (RUNV (.binOp .eql 9 (.tmp 48) (.const (.string (bs ([109, 97, 114, 107])))) 9) 49 4 ?_ (Nat.le_of_ble_eq_true rfl) (.bool (x5 == ([109, 97, 114, 107]))) (runs_seql (a := x5) (b := [109, 97, 114, 107]) ?_ ?_) ?_)
            · as_aux_lemma => kernel_rfl
            · as_aux_lemma => kernel_rfl
            · as_aux_lemma => kernel_rfl
            refine ENDOPS (NEXT (IF (x5 == ([109, 97, 114, 107])) ?_ (fun bh47 => ?_) (fun bh47 => ?_)))
            · as_aux_lemma => kernel_rfl
            · exact Bool.noConfusion (bh17.symm.trans bh47)
            · -- x5 == ([109, 97, 114, 107]) = false
              have h47 := bh47
              have h47 := ne_of_beq_false h47
              refine SKIP (OUTN (NEXT (SEQ (SEQ (REGION [0, 1, 2, 3, 4, 5, 6, 7] rfl (RUN0 1 [1, 2, 3, 4, 5, 6, 7] [(0, .v (.string (bs line))), (2, .p 0 0), (5, .p 1 0), (60, .v (.string (bs line)))] ?_ rfl ?_))))))
              · as_aux_lemma => kernel_rfl
              refine OPC (RUNV (.binOp .eql 9 (.tmp 60) (.const (.string (bs ([])))) 9) 61 4 ?_ (Nat.le_of_ble_eq_true rfl) (.bool (line == ([]))) (runs_seql (a := line) (b := []) ?_ ?_) ?_)
              · as_aux_lemma => kernel_rfl
              · as_aux_lemma => kernel_rfl
              · as_aux_lemma => kernel_rfl
              refine RUN0 1 [3, 4, 5, 6, 7] [(0, .v (.string (bs line))), (2, .p 0 0), (5, .p 1 0), (62, B (line == ([])))] ?_ rfl ?_
              · as_aux_lemma => kernel_rfl
              refine SPLIT (d := 62) (line == ([])) ?_ (fun bh48 => ?_) (fun bh48 => ?_)
              · as_aux_lemma => kernel_rfl
              · -- line == ([]) = true
                have h48 := bh48
                have h48 := eq_of_beq h48
                refine RUN0 5 [] [(2, .p 0 0), (5, .p 1 0), (67, B true)] ?_ rfl ?_
                · as_aux_lemma => kernel_rfl
                refine ENDOPS (NEXT (IFT ?_ ?_))
                · as_aux_lemma => kernel_rfl
                refine SEQ (REGION [0, 1, 2] rfl (RUN0 3 [] [(2, .p 0 0), (3, B false)] ?_ rfl ?_))
                · as_aux_lemma => kernel_rfl
                refine ENDOPS (NEXT (RET (PASS trivial (NIL 3 intL ?_))))
                have efin : readActS line = none := by 
                  have hh : head0 (parts line 32) = x5 := by simp [head0, hx6]
                  have hx : actS line = (⟨4, (⟨0, 0, 0, 0, 0, 0⟩ : Req), 0, (readArgs ((parts line 32).drop 1)).getD []⟩ : Act) := by (rw [actS, hh, if_neg h8, if_neg h14, if_neg h47, if_pos h38] <;> rfl)
                  rw [readActS, if_neg (by omega), hx]; first | exact if_pos (by assumption) | (rw [if_neg (by assumption)]; exact if_neg (by assumption))
                refine FIN (.tuple #[.agg #[vi 0, vi 0, vi 0, vi 0, vi 0, vi 0, vi 0, vi 0, .slice none 0 0], .bool false]) ?_ (none, 0) ?_ [2] ?_
                · as_aux_lemma => kernel_rfl
                · (rw [efin] <;> rfl)
                · (rw [efin] <;> rfl)
              · -- line == ([]) = false
                have h48 := bh48
                have h48 := ne_of_beq_false h48
                refine RUN0 1 [4, 5, 6, 7] [(0, .v (.string (bs line))), (2, .p 0 0), (5, .p 1 0), (62, B false), (63, .v (.agg #[vi 4, vi 0, vi 0, vi 0, vi 0, vi 0, vi 0, vi 0, .slice a44 (((readArgs ((parts line 32).drop 1)).getD []).length) c45]))] ?_ rfl ?_
                · as_aux_lemma => kernel_rfl
                refine OPC (CALL 12 #[.agg #[vi 4, vi 0, vi 0, vi 0, vi 0, vi 0, vi 0, vi 0, .slice a44 (((readArgs ((parts line 32).drop 1)).getD []).length) c45]] (some 64) ?_ [] [] _ rfl (RV (.string (bs (actLine (⟨4, (⟨0, 0, 0, 0, 0, 0⟩ : Req), 0, (readArgs ((parts line 32).drop 1)).getD []⟩ : Act))))) (fun w hw => sActLine_c w (⟨4, (⟨0, 0, 0, 0, 0, 0⟩ : Req), 0, (readArgs ((parts line 32).drop 1)).getD []⟩ : Act) a44 c45 (Rd.own (hw.own 1 rfl))) (by rintro _ ⟨⟩; exact Nat.le_of_ble_eq_true rfl) ?_)
                · as_aux_lemma => kernel_rfl
                rintro ⟨⟩
                refine RUN0 1 [6, 7] [(2, .p 0 0), (5, .p 1 0), (62, B false), (64, .v (.string (bs (actLine (⟨4, (⟨0, 0, 0, 0, 0, 0⟩ : Req), 0, (readArgs ((parts line 32).drop 1)).getD []⟩ : Act))))), (65, .v (.string (bs line)))] ?_ rfl ?_
                · as_aux_lemma => kernel_rfl
                refine OPC (RUNV (.binOp .neq 9 (.tmp 64) (.tmp 65) 9) 66 4 ?_ (Nat.le_of_ble_eq_true rfl) (.bool (!((actLine (⟨4, (⟨0, 0, 0, 0, 0, 0⟩ : Req), 0, (readArgs ((parts line 32).drop 1)).getD []⟩ : Act)) == line))) (runs_sneq (a := actLine (⟨4, (⟨0, 0, 0, 0, 0, 0⟩ : Req), 0, (readArgs ((parts line 32).drop 1)).getD []⟩ : Act)) (b := line) ?_ ?_) ?_)
                · as_aux_lemma => kernel_rfl
                · as_aux_lemma => kernel_rfl
                · as_aux_lemma => kernel_rfl
                refine RUN0 1 [] [(2, .p 0 0), (5, .p 1 0), (67, B (!((actLine (⟨4, (⟨0, 0, 0, 0, 0, 0⟩ : Req), 0, (readArgs ((parts line 32).drop 1)).getD []⟩ : Act)) == line)))] ?_ rfl ?_
                · as_aux_lemma => kernel_rfl
                refine ENDOPS (NEXT (IF (!((actLine (⟨4, (⟨0, 0, 0, 0, 0, 0⟩ : Req), 0, (readArgs ((parts line 32).drop 1)).getD []⟩ : Act)) == line)) ?_ (fun bh49 => ?_) (fun bh49 => ?_)))
                · as_aux_lemma => kernel_rfl
                · -- !((actLine (⟨4, (⟨0, 0, 0, 0, 0, 0⟩ : Req), 0, (readArgs ((parts line 32).drop 1)).getD []⟩ : Act))  = true
                  have h49 := bh49
                  have h49 := notT h49
                  have h49 := ne_of_beq_false h49
                  refine SEQ (REGION [0, 1, 2] rfl (RUN0 3 [] [(2, .p 0 0), (3, B false)] ?_ rfl ?_))
                  · as_aux_lemma => kernel_rfl
                  refine ENDOPS (NEXT (RET (PASS trivial (NIL 3 intL ?_))))
                  have efin : readActS line = none := by 
                    have hh : head0 (parts line 32) = x5 := by simp [head0, hx6]
                    have hx : actS line = (⟨4, (⟨0, 0, 0, 0, 0, 0⟩ : Req), 0, (readArgs ((parts line 32).drop 1)).getD []⟩ : Act) := by (rw [actS, hh, if_neg h8, if_neg h14, if_neg h47, if_pos h38] <;> rfl)
                    rw [readActS, if_neg (by omega), hx]; first | exact if_pos (by assumption) | (rw [if_neg (by assumption)]; exact if_neg (by assumption))
                  refine FIN (.tuple #[.agg #[vi 0, vi 0, vi 0, vi 0, vi 0, vi 0, vi 0, vi 0, .slice none 0 0], .bool false]) ?_ (none, 0) ?_ [2] ?_
                  · as_aux_lemma => kernel_rfl
                  · (rw [efin] <;> rfl)
                  · (rw [efin] <;> rfl)
                · -- !((actLine (⟨4, (⟨0, 0, 0, 0, 0, 0⟩ : Req), 0, (readArgs ((parts line 32).drop 1)).getD []⟩ : Act))  = false
                  have h49 := bh49
                  have h49 := notF h49
                  have h49 := eq_of_beq h49
                  refine SKIP (NEXT (SEQ (REGION [0, 1, 2] rfl (RUN 3 [] [(2, .p 0 0), (3, B true)] [(26, [vi 4, vi 0, vi 0, vi 0, vi 0, vi 0, vi 0, vi 0, .slice a44 (((readArgs ((parts line 32).drop 1)).getD []).length) c45]), (26, [vi 4, vi 0, vi 0, vi 0, vi 0, vi 0, vi 0, vi 0, .slice a44 (((readArgs ((parts line 32).drop 1)).getD []).length) c45])] ?_ rfl ?_))))
                  · as_aux_lemma => kernel_rfl
                  refine ENDOPS (NEXT (RET ?_))
                  have efin : readActS line = some (⟨4, (⟨0, 0, 0, 0, 0, 0⟩ : Req), 0, (readArgs ((parts line 32).drop 1)).getD []⟩ : Act) := by 
                    have hh : head0 (parts line 32) = x5 := by simp [head0, hx6]
                    have hx : actS line = (⟨4, (⟨0, 0, 0, 0, 0, 0⟩ : Req), 0, (readArgs ((parts line 32).drop 1)).getD []⟩ : Act) := by (rw [actS, hh, if_neg h8, if_neg h14, if_neg h47, if_pos h38] <;> rfl)
                    rw [readActS, if_neg (by omega), hx]; rw [if_neg (by assumption)]; exact if_pos (by assumption)
                  refine FIN (.tuple #[.agg #[vi 4, vi 0, vi 0, vi 0, vi 0, vi 0, vi 0, vi 0, .slice a44 (((readArgs ((parts line 32).drop 1)).getD []).length) c45], .bool true]) ?_ (a44, c45) ?_ [1] ?_
                  · as_aux_lemma => kernel_rfl
                  · (rw [efin] <;> rfl)
                  · (rw [efin] <;> rfl)
          · -- x5 == ([102, 97, 108, 108]) = false
            have h38 := bh38
            have h38 := ne_of_beq_false h38
            refine SKIP (OUTN (NEXT (SEQ (SEQ (REGION [0, 1, 2, 3, 4, 5, 6, 7] rfl (RUN0 1 [1, 2, 3, 4, 5, 6, 7] [(0, .v (.string (bs line))), (2, .p 0 0), (5, .p 1 0), (60, .v (.string (bs line)))] ?_ rfl ?_))))))
            · as_aux_lemma => kernel_rfl
            refine OPC (RUNV (.binOp .eql 9 (.tmp 60) (.const (.string (bs ([])))) 9) 61 4 ?_ (Nat.le_of_ble_eq_true rfl) (.bool (line == ([]))) (runs_seql (a := line) (b := []) ?_ ?_) ?_)
            · as_aux_lemma => kernel_rfl
            · as_aux_lemma => kernel_rfl
            · as_aux_lemma => kernel_rfl
            refine RUN0 1 [3, 4, 5, 6, 7] [(0, .v (.string (bs line))), (2, .p 0 0), (5, .p 1 0), (62, B (line == ([])))] ?_ rfl ?_
            · as_aux_lemma => kernel_rfl
            refine SPLIT (d := 62) (line == ([])) ?_ (fun bh50 => ?_) (fun bh50 => ?_)
            · as_aux_lemma => kernel_rfl
            · -- line == ([]) = true
              have h50 := bh50
              have h50 := eq_of_beq h50
              refine RUN0 5 [] [(2, .p 0 0), (5, .p 1 0), (67, B true)] ?_ rfl ?_
              · as_aux_lemma => kernel_rfl
              refine ENDOPS (NEXT (IFT ?_ ?_))
              · as_aux_lemma => kernel_rfl
              refine SEQ (REGION [0, 1, 2] rfl (RUN0 3 [] [(2, .p 0 0), (3, B false)] ?_ rfl ?_))
              · as_aux_lemma => kernel_rfl
              refine ENDOPS (NEXT (RET (PASS trivial (NIL 3 intL ?_))))
              have efin : readActS line = none := by 
                have hh : head0 (parts line 32) = x5 := by simp [head0, hx6]
                have hx : actS line = (⟨0, (⟨0, 0, 0, 0, 0, 0⟩ : Req), 0, []⟩ : Act) := by (rw [actS, hh, if_neg h8, if_neg h14, if_neg h17, if_neg h38] <;> rfl)
                rw [readActS, if_neg (by omega), hx]; first | exact if_pos (by assumption) | (rw [if_neg (by assumption)]; exact if_neg (by assumption))
              refine FIN (.tuple #[.agg #[vi 0, vi 0, vi 0, vi 0, vi 0, vi 0, vi 0, vi 0, .slice none 0 0], .bool false]) ?_ (none, 0) ?_ [1] ?_
              · as_aux_lemma => kernel_rfl
              · (rw [efin] <;> rfl)
              · (rw [efin] <;> rfl)
            · -- line == ([]) = false
              have h50 := bh50
              have h50 := ne_of_beq_false h50
              refine RUN0 1 [4, 5, 6, 7] [(0, .v (.string (bs line))), (2, .p 0 0), (5, .p 1 0), (62, B false), (63, .v (.agg #[vi 0, vi 0, vi 0, vi 0, vi 0, vi 0, vi 0, vi 0, .slice none 0 0]))] ?_ rfl ?_
              · as_aux_lemma => kernel_rfl
              refine OPC (CALL 12 #[.agg #[vi 0, vi 0, vi 0, vi 0, vi 0, vi 0, vi 0, vi 0, .slice none 0 0]] (some 64) ?_ [] [] _ rfl (RV (.string (bs (actLine (⟨0, (⟨0, 0, 0, 0, 0, 0⟩ : Req), 0, []⟩ : Act))))) (fun w hw => sActLine_c w (⟨0, (⟨0, 0, 0, 0, 0, 0⟩ : Req), 0, []⟩ : Act) none 0 (Rd.nil _ _)) (by rintro _ ⟨⟩; exact Nat.le_of_ble_eq_true rfl) ?_)
              · as_aux_lemma => kernel_rfl
              rintro ⟨⟩
              refine RUN0 1 [6, 7] [(2, .p 0 0), (5, .p 1 0), (62, B false), (64, .v (.string (bs (actLine (⟨0, (⟨0, 0, 0, 0, 0, 0⟩ : Req), 0, []⟩ : Act))))), (65, .v (.string (bs line)))] ?_ rfl ?_
              · as_aux_lemma => kernel_rfl
              refine OPC (RUNV (.binOp .neq 9 (.tmp 64) (.tmp 65) 9) 66 4 ?_ (Nat.le_of_ble_eq_true rfl) (.bool (!((actLine (⟨0, (⟨0, 0, 0, 0, 0, 0⟩ : Req), 0, []⟩ : Act)) == line))) (runs_sneq (a := actLine (⟨0, (⟨0, 0, 0, 0, 0, 0⟩ : Req), 0, []⟩ : Act)) (b := line) ?_ ?_) ?_)
              · as_aux_lemma => kernel_rfl
              · as_aux_lemma => kernel_rfl
              · as_aux_lemma => kernel_rfl
              refine RUN0 1 [] [(2, .p 0 0), (5, .p 1 0), (67, B (!((actLine (⟨0, (⟨0, 0, 0, 0, 0, 0⟩ : Req), 0, []⟩ : Act)) == line)))] ?_ rfl ?_
              · as_aux_lemma => kernel_rfl
              refine ENDOPS (NEXT (IF (!((actLine (⟨0, (⟨0, 0, 0, 0, 0, 0⟩ : Req), 0, []⟩ : Act)) == line)) ?_ (fun bh51 => ?_) (fun bh51 => ?_)))
              · as_aux_lemma => kernel_rfl
              · -- !((actLine (⟨0, (⟨0, 0, 0, 0, 0, 0⟩ : Req), 0, []⟩ : Act)) == line) = true
                have h51 := bh51
                have h51 := notT h51
                have h51 := ne_of_beq_false h51
                refine SEQ (REGION [0, 1, 2] rfl (RUN0 3 [] [(2, .p 0 0), (3, B false)] ?_ rfl ?_))
                · as_aux_lemma => kernel_rfl
                refine ENDOPS (NEXT (RET (PASS trivial (NIL 3 intL ?_))))
                have efin : readActS line = none := by 
                  have hh : head0 (parts line 32) = x5 := by simp [head0, hx6]
                  have hx : actS line = (⟨0, (⟨0, 0, 0, 0, 0, 0⟩ : Req), 0, []⟩ : Act) := by (rw [actS, hh, if_neg h8, if_neg h14, if_neg h17, if_neg h38] <;> rfl)
                  rw [readActS, if_neg (by omega), hx]; first | exact if_pos (by assumption) | (rw [if_neg (by assumption)]; exact if_neg (by assumption))
                refine FIN (.tuple #[.agg #[vi 0, vi 0, vi 0, vi 0, vi 0, vi 0, vi 0, vi 0, .slice none 0 0], .bool false]) ?_ (none, 0) ?_ [1] ?_
                · as_aux_lemma => kernel_rfl
                · (rw [efin] <;> rfl)
                · (rw [efin] <;> rfl)
              · -- !((actLine (⟨0, (⟨0, 0, 0, 0, 0, 0⟩ : Req), 0, []⟩ : Act)) == line) = false
                have h51 := bh51
                have h51 := notF h51
                have h51 := eq_of_beq h51
                refine SKIP (NEXT (SEQ (REGION [0, 1, 2] rfl (RUN0 3 [] [(2, .p 0 0), (3, B true)] ?_ rfl ?_))))
                · as_aux_lemma => kernel_rfl
                refine ENDOPS (NEXT (RET (NIL 3 intL ?_)))
                have efin : readActS line = some (⟨0, (⟨0, 0, 0, 0, 0, 0⟩ : Req), 0, []⟩ : Act) := by 
                  have hh : head0 (parts line 32) = x5 := by simp [head0, hx6]
                  have hx : actS line = (⟨0, (⟨0, 0, 0, 0, 0, 0⟩ : Req), 0, []⟩ : Act) := by (rw [actS, hh, if_neg h8, if_neg h14, if_neg h17, if_neg h38] <;> rfl)
                  rw [readActS, if_neg (by omega), hx]; rw [if_neg (by assumption)]; exact if_pos (by assumption)
                refine FIN (.tuple #[.agg #[vi 0, vi 0, vi 0, vi 0, vi 0, vi 0, vi 0, vi 0, .slice none 0 0], .bool true]) ?_ (none, 0) ?_ [1] ?_
                · as_aux_lemma => kernel_rfl
                · (rw [efin] <;> rfl)
                · (rw [efin] <;> rfl)

end SX
end Go.Proofs.YtpdijcbgdalphabDoor
