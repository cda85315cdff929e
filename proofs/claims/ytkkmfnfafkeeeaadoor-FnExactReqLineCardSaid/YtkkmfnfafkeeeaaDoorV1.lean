/- Walks, printed by program. -/
import Derived.Test.YtkkmfnfafkeeeaaDoorMdl4
import Derived.Test.YtkkmfnfafkeeeaaDoorShelf
namespace Go.Proofs.YtkkmfnfafkeeeaaDoor
namespace SX
open Go Go.RowKit
set_option linter.unusedVariables false
set_option linter.unusedSimpArgs false
set_option maxRecDepth 10000
theorem within_c (W : World) (n : Int) (lo : Int) (hi : Int) : Spec Tryd.prog W [] 54 #[vi n, vi lo, vi hi] (RV (.bool (inB n lo hi))) := by
  refine ENTER0 (N := 15) (vs := [vi n, vi lo, vi hi]) Tryd.func54 rfl rfl (Nat.le_of_ble_eq_true rfl) ?_
  refine SEQ (REGION [0] rfl (RUN0 1 [] [(0, I n), (1, I lo), (2, I hi)] ?_ rfl ?_))
  · as_aux_lemma => kernel_rfl
  refine ENDOPS (NEXT (SEQ (REGION [0, 1, 2, 3, 4, 5, 6, 7, 8] rfl (RUN0 4 [4, 5, 6, 7, 8] [(0, I n), (2, I hi), (10, B (decide (n ≥ lo)))] ?_ rfl ?_))))
  · as_aux_lemma => kernel_rfl
  refine SPLIT (d := 10) (decide (n ≥ lo)) ?_ (fun bh1 => ?_) (fun bh1 => ?_)
  · as_aux_lemma => kernel_rfl
  · -- decide (n ≥ lo) = true
    have h1 := bh1
    have h1 := of_decide_eq_true h1
    refine RUN0 5 [] [(6, B (decide (n ≤ hi)))] ?_ rfl ?_
    · as_aux_lemma => kernel_rfl
    refine ENDOPS (NEXT (RET (FIN (.bool (decide (n ≤ hi))) ?_ () ?_ [] ?_)))
    · as_aux_lemma => kernel_rfl
    · simp [RV, inB, *]
    · rfl
  · -- decide (n ≥ lo) = false
    have h1 := bh1
    have h1 := of_decide_eq_false h1
    refine RUN0 5 [] [(6, B false)] ?_ rfl ?_
    · as_aux_lemma => kernel_rfl
    refine ENDOPS (NEXT (RET (FIN (.bool false) ?_ () ?_ [] ?_)))
    · as_aux_lemma => kernel_rfl
    · simp [RV, inB, *]
    · rfl

theorem l1In_c (W : World) (x : Int) (lo : Int) (hi : Int) : Spec Tryd.prog W [] 48 #[vi x, vi lo, vi hi] (RV (.bool (inB x lo hi))) := by
  refine ENTER0 (N := 15) (vs := [vi x, vi lo, vi hi]) Tryd.func48 rfl rfl (Nat.le_of_ble_eq_true rfl) ?_
  refine SEQ (REGION [0] rfl (RUN0 1 [] [(0, I x), (1, I lo), (2, I hi)] ?_ rfl ?_))
  · as_aux_lemma => kernel_rfl
  refine ENDOPS (NEXT (SEQ (REGION [0, 1, 2, 3, 4, 5, 6, 7, 8] rfl (RUN0 4 [4, 5, 6, 7, 8] [(0, I x), (2, I hi), (10, B (decide (x ≥ lo)))] ?_ rfl ?_))))
  · as_aux_lemma => kernel_rfl
  refine SPLIT (d := 10) (decide (x ≥ lo)) ?_ (fun bh1 => ?_) (fun bh1 => ?_)
  · as_aux_lemma => kernel_rfl
  · -- decide (x ≥ lo) = true
    have h1 := bh1
    have h1 := of_decide_eq_true h1
    refine RUN0 5 [] [(6, B (decide (x ≤ hi)))] ?_ rfl ?_
    · as_aux_lemma => kernel_rfl
    refine ENDOPS (NEXT (RET (FIN (.bool (decide (x ≤ hi))) ?_ () ?_ [] ?_)))
    · as_aux_lemma => kernel_rfl
    · simp [RV, inB, *]
    · rfl
  · -- decide (x ≥ lo) = false
    have h1 := bh1
    have h1 := of_decide_eq_false h1
    refine RUN0 5 [] [(6, B false)] ?_ rfl ?_
    · as_aux_lemma => kernel_rfl
    refine ENDOPS (NEXT (RET (FIN (.bool false) ?_ () ?_ [] ?_)))
    · as_aux_lemma => kernel_rfl
    · simp [RV, inB, *]
    · rfl

theorem l12Field_c (W : World) (x : Int) : Spec Tryd.prog W [] 52 #[vi x] (RV (.bool (usedB x))) := by
  refine ENTER0 (N := 5) (vs := [vi x]) Tryd.func52 rfl rfl (Nat.le_of_ble_eq_true rfl) ?_
  refine SEQ (REGION [0] rfl (RUN0 1 [] [(0, I x)] ?_ rfl ?_))
  · as_aux_lemma => kernel_rfl
  refine ENDOPS (NEXT (SEQ (REGION [0, 1, 2] rfl (RUN0 1 [1, 2] [(3, I x)] ?_ rfl ?_))))
  · as_aux_lemma => kernel_rfl
  refine OPC (CALL 48 #[vi x, vi 0, vi 9999] (some 4) ?_ [] [] _ rfl (RV (.bool (inB x 0 9999))) (fun w hw => l1In_c w x 0 9999) (by rintro _ ⟨⟩; exact Nat.le_of_ble_eq_true rfl) ?_)
  · as_aux_lemma => kernel_rfl
  rintro ⟨⟩
  refine RUN0 1 [] [(2, B (inB x 0 9999))] ?_ rfl ?_
  · as_aux_lemma => kernel_rfl
  refine ENDOPS (NEXT (RET (FIN (.bool (inB x 0 9999)) ?_ () ?_ [] ?_)))
  · as_aux_lemma => kernel_rfl
  · simp [RV, usedB]
  · rfl

theorem iReqOk1_c (W : World) (n : Int) : Spec Tryd.prog W [] 53 #[vi n] (RV (.bool (usedB n))) := by
  refine ENTER0 (N := 5) (vs := [vi n]) Tryd.func53 rfl rfl (Nat.le_of_ble_eq_true rfl) ?_
  refine SEQ (REGION [0] rfl (RUN0 1 [] [(0, I n)] ?_ rfl ?_))
  · as_aux_lemma => kernel_rfl
  refine ENDOPS (NEXT (SEQ (REGION [0, 1, 2] rfl (RUN0 1 [1, 2] [(3, I n)] ?_ rfl ?_))))
  · as_aux_lemma => kernel_rfl
  refine OPC (CALL 54 #[vi n, vi 0, vi 9999] (some 4) ?_ [] [] _ rfl (RV (.bool (inB n 0 9999))) (fun w hw => within_c w n 0 9999) (by rintro _ ⟨⟩; exact Nat.le_of_ble_eq_true rfl) ?_)
  · as_aux_lemma => kernel_rfl
  rintro ⟨⟩
  refine RUN0 1 [] [(2, B (inB n 0 9999))] ?_ rfl ?_
  · as_aux_lemma => kernel_rfl
  refine ENDOPS (NEXT (RET (FIN (.bool (inB n 0 9999)) ?_ () ?_ [] ?_)))
  · as_aux_lemma => kernel_rfl
  · simp [RV, usedB]
  · rfl

theorem iReqOk_c (W : World) (q : Req) : Spec Tryd.prog W [] 39 #[.agg #[vi q.kind, vi q.id, vi q.cabin, vi q.from', vi q.size, vi q.tier]] (RV (.bool (reqOk q))) := by
  refine ENTER0 (N := 81) (vs := [.agg #[vi q.kind, vi q.id, vi q.cabin, vi q.from', vi q.size, vi q.tier]]) Tryd.func39 rfl rfl (Nat.le_of_ble_eq_true rfl) ?_
  refine SEQ (REGION [0, 1] rfl (RUN 2 [] [(1, .p 0 0)] [(34, [vi q.kind, vi q.id, vi q.cabin, vi q.from', vi q.size, vi q.tier])] ?_ rfl ?_))
  · as_aux_lemma => kernel_rfl
  refine ENDOPS (NEXT (SEQ (REGION [0] rfl (RUN0 1 [] [(1, .p 0 0), (3, .v (.func (.func 53) #[] #[]))] ?_ rfl ?_))))
  · as_aux_lemma => kernel_rfl
  refine ENDOPS (NEXT (SEQ (SEQ (REGION [0, 1] rfl (RUN0 2 [] [(1, .p 0 0), (3, .v (.func (.func 53) #[] #[])), (5, I q.kind)] ?_ rfl ?_)))))
  · as_aux_lemma => kernel_rfl
  refine ENDOPS (NEXT (BLOCK (SEQ (REGION [0, 1] rfl (RUN0 2 [] [(1, .p 0 0), (3, .v (.func (.func 53) #[] #[])), (5, I q.kind), (6, B (q.kind == 1))] ?_ rfl ?_)))))
  · as_aux_lemma => kernel_rfl
  refine ENDOPS (NEXT (IF (q.kind == 1) ?_ (fun bh1 => ?_) (fun bh1 => ?_)))
  · as_aux_lemma => kernel_rfl
  · -- q.kind == 1 = true
    have h1 := bh1
    have h1 := eq_of_beq h1
    refine SEQ (REGION [0, 1, 2, 3, 4, 5, 6, 7, 8, 9, 10, 11, 12, 13, 14, 15, 16, 17, 18, 19, 20, 21, 22, 23, 24, 25, 26, 27] rfl (RUN0 3 [3, 4, 5, 6, 7, 8, 9, 10, 11, 12, 13, 14, 15, 16, 17, 18, 19, 20, 21, 22, 23, 24, 25, 26, 27] [(1, .p 0 0), (3, .v (.func (.func 53) #[] #[])), (8, .v (.func (.func 53) #[] #[])), (10, I q.id)] ?_ rfl ?_))
    · as_aux_lemma => kernel_rfl
    refine OPC (CALL 53 #[vi q.id] (some 11) ?_ [] [] _ rfl (RV (.bool (usedB q.id))) (fun w hw => iReqOk1_c w q.id) (by rintro _ ⟨⟩; exact Nat.le_of_ble_eq_true rfl) ?_)
    · as_aux_lemma => kernel_rfl
    rintro ⟨⟩
    refine RUN0 1 [5, 6, 7, 8, 9, 10, 11, 12, 13, 14, 15, 16, 17, 18, 19, 20, 21, 22, 23, 24, 25, 26, 27] [(1, .p 0 0), (3, .v (.func (.func 53) #[] #[])), (12, B (usedB q.id))] ?_ rfl ?_
    · as_aux_lemma => kernel_rfl
    refine SPLIT (d := 12) (usedB q.id) ?_ (fun bh2 => ?_) (fun bh2 => ?_)
    · as_aux_lemma => kernel_rfl
    · -- usedB q.id = true
      have h2 := bh2
      refine RUN0 3 [8, 9, 10, 11, 12, 13, 14, 15, 16, 17, 18, 19, 20, 21, 22, 23, 24, 25, 26, 27] [(1, .p 0 0), (3, .v (.func (.func 53) #[] #[])), (12, B true), (13, .v (.func (.func 53) #[] #[])), (15, I q.cabin)] ?_ rfl ?_
      · as_aux_lemma => kernel_rfl
      refine OPC (CALL 53 #[vi q.cabin] (some 16) ?_ [] [] _ rfl (RV (.bool (usedB q.cabin))) (fun w hw => iReqOk1_c w q.cabin) (by rintro _ ⟨⟩; exact Nat.le_of_ble_eq_true rfl) ?_)
      · as_aux_lemma => kernel_rfl
      rintro ⟨⟩
      refine RUN0 2 [11, 12, 13, 14, 15, 16, 17, 18, 19, 20, 21, 22, 23, 24, 25, 26, 27] [(1, .p 0 0), (3, .v (.func (.func 53) #[] #[])), (18, B (usedB q.cabin))] ?_ rfl ?_
      · as_aux_lemma => kernel_rfl
      refine SPLIT (d := 18) (usedB q.cabin) ?_ (fun bh3 => ?_) (fun bh3 => ?_)
      · as_aux_lemma => kernel_rfl
      · -- usedB q.cabin = true
        have h3 := bh3
        refine RUN0 2 [13, 14, 15, 16, 17, 18, 19, 20, 21, 22, 23, 24, 25, 26, 27] [(1, .p 0 0), (3, .v (.func (.func 53) #[] #[])), (18, B true), (20, I q.from')] ?_ rfl ?_
        · as_aux_lemma => kernel_rfl
        refine OPC (CALL 54 #[vi q.from', vi (-1), vi 9999] (some 21) ?_ [] [] _ rfl (RV (.bool (inB q.from' (-1) 9999))) (fun w hw => within_c w q.from' (-1) 9999) (by rintro _ ⟨⟩; exact Nat.le_of_ble_eq_true rfl) ?_)
        · as_aux_lemma => kernel_rfl
        rintro ⟨⟩
        refine RUN0 2 [16, 17, 18, 19, 20, 21, 22, 23, 24, 25, 26, 27] [(1, .p 0 0), (3, .v (.func (.func 53) #[] #[])), (23, B (inB q.from' (-1) 9999))] ?_ rfl ?_
        · as_aux_lemma => kernel_rfl
        refine SPLIT (d := 23) (inB q.from' (-1) 9999) ?_ (fun bh4 => ?_) (fun bh4 => ?_)
        · as_aux_lemma => kernel_rfl
        · -- inB q.from' (-1) 9999 = true
          have h4 := bh4
          refine RUN0 3 [19, 20, 21, 22, 23, 24, 25, 26, 27] [(1, .p 0 0), (3, .v (.func (.func 53) #[] #[])), (23, B true), (24, .v (.func (.func 53) #[] #[])), (26, I q.size)] ?_ rfl ?_
          · as_aux_lemma => kernel_rfl
          refine OPC (CALL 53 #[vi q.size] (some 27) ?_ [] [] _ rfl (RV (.bool (usedB q.size))) (fun w hw => iReqOk1_c w q.size) (by rintro _ ⟨⟩; exact Nat.le_of_ble_eq_true rfl) ?_)
          · as_aux_lemma => kernel_rfl
          rintro ⟨⟩
          refine RUN0 2 [22, 23, 24, 25, 26, 27] [(1, .p 0 0), (3, .v (.func (.func 53) #[] #[])), (29, B (usedB q.size))] ?_ rfl ?_
          · as_aux_lemma => kernel_rfl
          refine SPLIT (d := 29) (usedB q.size) ?_ (fun bh5 => ?_) (fun bh5 => ?_)
          · as_aux_lemma => kernel_rfl
          · -- usedB q.size = true
            have h5 := bh5
            refine RUN0 3 [25, 26, 27] [(29, B true), (30, .v (.func (.func 53) #[] #[])), (32, I q.tier)] ?_ rfl ?_
            · as_aux_lemma => kernel_rfl
            refine OPC (CALL 53 #[vi q.tier] (some 33) ?_ [] [] _ rfl (RV (.bool (usedB q.tier))) (fun w hw => iReqOk1_c w q.tier) (by rintro _ ⟨⟩; exact Nat.le_of_ble_eq_true rfl) ?_)
            · as_aux_lemma => kernel_rfl
            rintro ⟨⟩
            refine RUN0 2 [] [(2, B (usedB q.tier))] ?_ rfl ?_
            · as_aux_lemma => kernel_rfl
            refine ENDOPS (NEXT (RET (OUTR (PASS trivial (FIN (.bool (usedB q.tier)) ?_ () ?_ [] ?_)))))
            · as_aux_lemma => kernel_rfl
            · simp [RV, reqOk, reqEq, *]
            · rfl
          · -- usedB q.size = false
            have h5 := bh5
            refine RUN0 6 [] [(2, B false)] ?_ rfl ?_
            · as_aux_lemma => kernel_rfl
            refine ENDOPS (NEXT (RET (OUTR (PASS trivial (FIN (.bool false) ?_ () ?_ [] ?_)))))
            · as_aux_lemma => kernel_rfl
            · simp [RV, reqOk, reqEq, *]
            · rfl
        · -- inB q.from' (-1) 9999 = false
          have h4 := bh4
          refine RUN0 12 [] [(2, B false)] ?_ rfl ?_
          · as_aux_lemma => kernel_rfl
          refine ENDOPS (NEXT (RET (OUTR (PASS trivial (FIN (.bool false) ?_ () ?_ [] ?_)))))
          · as_aux_lemma => kernel_rfl
          · simp [RV, reqOk, reqEq, *]
          · rfl
      · -- usedB q.cabin = false
        have h3 := bh3
        refine RUN0 17 [] [(2, B false)] ?_ rfl ?_
        · as_aux_lemma => kernel_rfl
        refine ENDOPS (NEXT (RET (OUTR (PASS trivial (FIN (.bool false) ?_ () ?_ [] ?_)))))
        · as_aux_lemma => kernel_rfl
        · simp [RV, reqOk, reqEq, *]
        · rfl
    · -- usedB q.id = false
      have h2 := bh2
      refine RUN0 23 [] [(2, B false)] ?_ rfl ?_
      · as_aux_lemma => kernel_rfl
      refine ENDOPS (NEXT (RET (OUTR (PASS trivial (FIN (.bool false) ?_ () ?_ [] ?_)))))
      · as_aux_lemma => kernel_rfl
      · simp [RV, reqOk, reqEq, *]
      · rfl
  · -- q.kind == 1 = false
    have h1 := bh1
    have h1 := ne_of_beq_false h1
    refine SEQ (SEQ (REGION [0, 1] rfl (RUN0 2 [] [(1, .p 0 0), (3, .v (.func (.func 53) #[] #[])), (5, I q.kind), (35, B (q.kind == 2))] ?_ rfl ?_)))
    · as_aux_lemma => kernel_rfl
    refine ENDOPS (NEXT (IF (q.kind == 2) ?_ (fun bh6 => ?_) (fun bh6 => ?_)))
    · as_aux_lemma => kernel_rfl
    · -- q.kind == 2 = true
      have h6 := bh6
      have h6 := eq_of_beq h6
      refine SKIP (NEXT (IF (q.kind == 2) ?_ (fun bh7 => ?_) (fun bh7 => ?_)))
      · as_aux_lemma => kernel_rfl
      · -- q.kind == 2 = true
        have h7 := bh7
        have h7 := eq_of_beq h7
        refine SEQ (REGION [0, 1, 2, 3, 4, 5, 6, 7, 8, 9, 10, 11, 12, 13] rfl (RUN0 3 [3, 4, 5, 6, 7, 8, 9, 10, 11, 12, 13] [(1, .p 0 0), (40, .v (.func (.func 53) #[] #[])), (42, I q.id)] ?_ rfl ?_))
        · as_aux_lemma => kernel_rfl
        refine OPC (CALL 53 #[vi q.id] (some 43) ?_ [] [] _ rfl (RV (.bool (usedB q.id))) (fun w hw => iReqOk1_c w q.id) (by rintro _ ⟨⟩; exact Nat.le_of_ble_eq_true rfl) ?_)
        · as_aux_lemma => kernel_rfl
        rintro ⟨⟩
        refine RUN0 1 [5, 6, 7, 8, 9, 10, 11, 12, 13] [(1, .p 0 0), (44, B (usedB q.id))] ?_ rfl ?_
        · as_aux_lemma => kernel_rfl
        refine SPLIT (d := 44) (usedB q.id) ?_ (fun bh8 => ?_) (fun bh8 => ?_)
        · as_aux_lemma => kernel_rfl
        · -- usedB q.id = true
          have h8 := bh8
          refine RUN0 6 [11, 12, 13] [(44, B true), (45, .v (.agg #[vi q.kind, vi q.id, vi q.cabin, vi q.from', vi q.size, vi q.tier])), (50, .v (.agg #[vi q.kind, vi q.id, vi 0, vi 0, vi 0, vi 0]))] ?_ rfl ?_
          · as_aux_lemma => kernel_rfl
          refine OPC (RUNV (.binOp .eql 34 (.tmp 45) (.tmp 50) 34) 51 4 ?_ (Nat.le_of_ble_eq_true rfl) (.bool ((q.kind == q.kind) && ((q.id == q.id) && ((q.cabin == 0) && ((q.from' == 0) && ((q.size == 0) && ((q.tier == 0) && true))))))) (runs_eql (xs := [vi q.kind, vi q.id, vi q.cabin, vi q.from', vi q.size, vi q.tier]) (ys := [vi q.kind, vi q.id, vi 0, vi 0, vi 0, vi 0]) (r := (q.kind == q.kind) && ((q.id == q.id) && ((q.cabin == 0) && ((q.from' == 0) && ((q.size == 0) && ((q.tier == 0) && true)))))) ?_ ?_ ?_) ?_)
          · as_aux_lemma => kernel_rfl
          · as_aux_lemma => kernel_rfl
          · as_aux_lemma => kernel_rfl
          · as_aux_lemma => kernel_rfl
          refine RUN0 2 [] [(2, B ((q.kind == q.kind) && ((q.id == q.id) && ((q.cabin == 0) && ((q.from' == 0) && ((q.size == 0) && ((q.tier == 0) && true)))))))] ?_ rfl ?_
          · as_aux_lemma => kernel_rfl
          refine ENDOPS (NEXT (RET (OUTR (PASS trivial (FIN (.bool ((q.kind == q.kind) && ((q.id == q.id) && ((q.cabin == 0) && ((q.from' == 0) && ((q.size == 0) && ((q.tier == 0) && true))))))) ?_ () ?_ [] ?_)))))
          · as_aux_lemma => kernel_rfl
          · simp [RV, reqOk, reqEq, *]
          · rfl
        · -- usedB q.id = false
          have h8 := bh8
          refine RUN0 9 [] [(2, B false)] ?_ rfl ?_
          · as_aux_lemma => kernel_rfl
          refine ENDOPS (NEXT (RET (OUTR (PASS trivial (FIN (.bool false) ?_ () ?_ [] ?_)))))
          · as_aux_lemma => kernel_rfl
          · simp [RV, reqOk, reqEq, *]
          · rfl
      · exact Bool.noConfusion (bh6.symm.trans bh7)
    · -- q.kind == 2 = false
      have h6 := bh6
      have h6 := ne_of_beq_false h6
      refine SEQ (REGION [0, 1] rfl (RUN0 2 [] [(1, .p 0 0), (3, .v (.func (.func 53) #[] #[])), (5, I q.kind), (35, B (q.kind == 4))] ?_ rfl ?_))
      · as_aux_lemma => kernel_rfl
      refine ENDOPS (NEXT (IF (q.kind == 4) ?_ (fun bh9 => ?_) (fun bh9 => ?_)))
      · as_aux_lemma => kernel_rfl
      · -- q.kind == 4 = true
        have h9 := bh9
        have h9 := eq_of_beq h9
        refine SKIP (NEXT (IF (q.kind == 4) ?_ (fun bh10 => ?_) (fun bh10 => ?_)))
        · as_aux_lemma => kernel_rfl
        · -- q.kind == 4 = true
          have h10 := bh10
          have h10 := eq_of_beq h10
          refine SEQ (REGION [0, 1, 2, 3, 4, 5, 6, 7, 8, 9, 10, 11, 12, 13] rfl (RUN0 3 [3, 4, 5, 6, 7, 8, 9, 10, 11, 12, 13] [(1, .p 0 0), (40, .v (.func (.func 53) #[] #[])), (42, I q.id)] ?_ rfl ?_))
          · as_aux_lemma => kernel_rfl
          refine OPC (CALL 53 #[vi q.id] (some 43) ?_ [] [] _ rfl (RV (.bool (usedB q.id))) (fun w hw => iReqOk1_c w q.id) (by rintro _ ⟨⟩; exact Nat.le_of_ble_eq_true rfl) ?_)
          · as_aux_lemma => kernel_rfl
          rintro ⟨⟩
          refine RUN0 1 [5, 6, 7, 8, 9, 10, 11, 12, 13] [(1, .p 0 0), (44, B (usedB q.id))] ?_ rfl ?_
          · as_aux_lemma => kernel_rfl
          refine SPLIT (d := 44) (usedB q.id) ?_ (fun bh11 => ?_) (fun bh11 => ?_)
          · as_aux_lemma => kernel_rfl
          · -- usedB q.id = true
            have h11 := bh11
            refine RUN0 6 [11, 12, 13] [(44, B true), (45, .v (.agg #[vi q.kind, vi q.id, vi q.cabin, vi q.from', vi q.size, vi q.tier])), (50, .v (.agg #[vi q.kind, vi q.id, vi 0, vi 0, vi 0, vi 0]))] ?_ rfl ?_
            · as_aux_lemma => kernel_rfl
            refine OPC (RUNV (.binOp .eql 34 (.tmp 45) (.tmp 50) 34) 51 4 ?_ (Nat.le_of_ble_eq_true rfl) (.bool ((q.kind == q.kind) && ((q.id == q.id) && ((q.cabin == 0) && ((q.from' == 0) && ((q.size == 0) && ((q.tier == 0) && true))))))) (runs_eql (xs := [vi q.kind, vi q.id, vi q.cabin, vi q.from', vi q.size, vi q.tier]) (ys := [vi q.kind, vi q.id, vi 0, vi 0, vi 0, vi 0]) (r := (q.kind == q.kind) && ((q.id == q.id) && ((q.cabin == 0) && ((q.from' == 0) && ((q.size == 0) && ((q.tier == 0) && true)))))) ?_ ?_ ?_) ?_)
            · as_aux_lemma => kernel_rfl
            · as_aux_lemma => kernel_rfl
            · as_aux_lemma => kernel_rfl
            · as_aux_lemma => kernel_rfl
            refine RUN0 2 [] [(2, B ((q.kind == q.kind) && ((q.id == q.id) && ((q.cabin == 0) && ((q.from' == 0) && ((q.size == 0) && ((q.tier == 0) && true)))))))] ?_ rfl ?_
            · as_aux_lemma => kernel_rfl
            refine ENDOPS (NEXT (RET (OUTR (PASS trivial (FIN (.bool ((q.kind == q.kind) && ((q.id == q.id) && ((q.cabin == 0) && ((q.from' == 0) && ((q.size == 0) && ((q.tier == 0) && true))))))) ?_ () ?_ [] ?_)))))
            · as_aux_lemma => kernel_rfl
            · simp [RV, reqOk, reqEq, *]
            · rfl
          · -- usedB q.id = false
            have h11 := bh11
            refine RUN0 9 [] [(2, B false)] ?_ rfl ?_
            · as_aux_lemma => kernel_rfl
            refine ENDOPS (NEXT (RET (OUTR (PASS trivial (FIN (.bool false) ?_ () ?_ [] ?_)))))
            · as_aux_lemma => kernel_rfl
            · simp [RV, reqOk, reqEq, *]
            · rfl
        · exact Bool.noConfusion (bh9.symm.trans bh10)
      · -- q.kind == 4 = false
        have h9 := bh9
        have h9 := ne_of_beq_false h9
        refine SEQ (REGION [0, 1] rfl (RUN0 2 [] [(1, .p 0 0), (3, .v (.func (.func 53) #[] #[])), (5, I q.kind), (35, B (q.kind == 5))] ?_ rfl ?_))
        · as_aux_lemma => kernel_rfl
        refine ENDOPS (NEXT (IF (q.kind == 5) ?_ (fun bh12 => ?_) (fun bh12 => ?_)))
        · as_aux_lemma => kernel_rfl
        · -- q.kind == 5 = true
          have h12 := bh12
          have h12 := eq_of_beq h12
          refine SKIP (NEXT (IF (q.kind == 5) ?_ (fun bh13 => ?_) (fun bh13 => ?_)))
          · as_aux_lemma => kernel_rfl
          · -- q.kind == 5 = true
            have h13 := bh13
            have h13 := eq_of_beq h13
            refine SEQ (REGION [0, 1, 2, 3, 4, 5, 6, 7, 8, 9, 10, 11, 12, 13] rfl (RUN0 3 [3, 4, 5, 6, 7, 8, 9, 10, 11, 12, 13] [(1, .p 0 0), (40, .v (.func (.func 53) #[] #[])), (42, I q.id)] ?_ rfl ?_))
            · as_aux_lemma => kernel_rfl
            refine OPC (CALL 53 #[vi q.id] (some 43) ?_ [] [] _ rfl (RV (.bool (usedB q.id))) (fun w hw => iReqOk1_c w q.id) (by rintro _ ⟨⟩; exact Nat.le_of_ble_eq_true rfl) ?_)
            · as_aux_lemma => kernel_rfl
            rintro ⟨⟩
            refine RUN0 1 [5, 6, 7, 8, 9, 10, 11, 12, 13] [(1, .p 0 0), (44, B (usedB q.id))] ?_ rfl ?_
            · as_aux_lemma => kernel_rfl
            refine SPLIT (d := 44) (usedB q.id) ?_ (fun bh14 => ?_) (fun bh14 => ?_)
            · as_aux_lemma => kernel_rfl
            · -- usedB q.id = true
              have h14 := bh14
              refine RUN0 6 [11, 12, 13] [(44, B true), (45, .v (.agg #[vi q.kind, vi q.id, vi q.cabin, vi q.from', vi q.size, vi q.tier])), (50, .v (.agg #[vi q.kind, vi q.id, vi 0, vi 0, vi 0, vi 0]))] ?_ rfl ?_
              · as_aux_lemma => kernel_rfl
              refine OPC (RUNV (.binOp .eql 34 (.tmp 45) (.tmp 50) 34) 51 4 ?_ (Nat.le_of_ble_eq_true rfl) (.bool ((q.kind == q.kind) && ((q.id == q.id) && ((q.cabin == 0) && ((q.from' == 0) && ((q.size == 0) && ((q.tier == 0) && true))))))) (runs_eql (xs := [vi q.kind, vi q.id, vi q.cabin, vi q.from', vi q.size, vi q.tier]) (ys := [vi q.kind, vi q.id, vi 0, vi 0, vi 0, vi 0]) (r := (q.kind == q.kind) && ((q.id == q.id) && ((q.cabin == 0) && ((q.from' == 0) && ((q.size == 0) && ((q.tier == 0) && true)))))) ?_ ?_ ?_) ?_)
              · as_aux_lemma => kernel_rfl
              · as_aux_lemma => kernel_rfl
              · as_aux_lemma => kernel_rfl
              · as_aux_lemma => kernel_rfl
              refine RUN0 2 [] [(2, B ((q.kind == q.kind) && ((q.id == q.id) && ((q.cabin == 0) && ((q.from' == 0) && ((q.size == 0) && ((q.tier == 0) && true)))))))] ?_ rfl ?_
              · as_aux_lemma => kernel_rfl
              refine ENDOPS (NEXT (RET (OUTR (PASS trivial (FIN (.bool ((q.kind == q.kind) && ((q.id == q.id) && ((q.cabin == 0) && ((q.from' == 0) && ((q.size == 0) && ((q.tier == 0) && true))))))) ?_ () ?_ [] ?_)))))
              · as_aux_lemma => kernel_rfl
              · simp [RV, reqOk, reqEq, *]
              · rfl
            · -- usedB q.id = false
              have h14 := bh14
              refine RUN0 9 [] [(2, B false)] ?_ rfl ?_
              · as_aux_lemma => kernel_rfl
              refine ENDOPS (NEXT (RET (OUTR (PASS trivial (FIN (.bool false) ?_ () ?_ [] ?_)))))
              · as_aux_lemma => kernel_rfl
              · simp [RV, reqOk, reqEq, *]
              · rfl
          · exact Bool.noConfusion (bh12.symm.trans bh13)
        · -- q.kind == 5 = false
          have h12 := bh12
          have h12 := ne_of_beq_false h12
          refine REGION [0, 1] rfl (RUN0 2 [] [(1, .p 0 0), (3, .v (.func (.func 53) #[] #[])), (5, I q.kind), (35, B (q.kind == 7))] ?_ rfl ?_)
          · as_aux_lemma => kernel_rfl
          refine ENDOPS (NEXT (IF (q.kind == 7) ?_ (fun bh15 => ?_) (fun bh15 => ?_)))
          · as_aux_lemma => kernel_rfl
          · -- q.kind == 7 = true
            have h15 := bh15
            have h15 := eq_of_beq h15
            refine SEQ (REGION [0, 1, 2, 3, 4, 5, 6, 7, 8, 9, 10, 11, 12, 13] rfl (RUN0 3 [3, 4, 5, 6, 7, 8, 9, 10, 11, 12, 13] [(1, .p 0 0), (40, .v (.func (.func 53) #[] #[])), (42, I q.id)] ?_ rfl ?_))
            · as_aux_lemma => kernel_rfl
            refine OPC (CALL 53 #[vi q.id] (some 43) ?_ [] [] _ rfl (RV (.bool (usedB q.id))) (fun w hw => iReqOk1_c w q.id) (by rintro _ ⟨⟩; exact Nat.le_of_ble_eq_true rfl) ?_)
            · as_aux_lemma => kernel_rfl
            rintro ⟨⟩
            refine RUN0 1 [5, 6, 7, 8, 9, 10, 11, 12, 13] [(1, .p 0 0), (44, B (usedB q.id))] ?_ rfl ?_
            · as_aux_lemma => kernel_rfl
            refine SPLIT (d := 44) (usedB q.id) ?_ (fun bh16 => ?_) (fun bh16 => ?_)
            · as_aux_lemma => kernel_rfl
            · -- usedB q.id = true
              have h16 := bh16
              refine RUN0 6 [11, 12, 13] [(44, B true), (45, .v (.agg #[vi q.kind, vi q.id, vi q.cabin, vi q.from', vi q.size, vi q.tier])), (50, .v (.agg #[vi q.kind, vi q.id, vi 0, vi 0, vi 0, vi 0]))] ?_ rfl ?_
              · as_aux_lemma => kernel_rfl
              refine OPC (RUNV (.binOp .eql 34 (.tmp 45) (.tmp 50) 34) 51 4 ?_ (Nat.le_of_ble_eq_true rfl) (.bool ((q.kind == q.kind) && ((q.id == q.id) && ((q.cabin == 0) && ((q.from' == 0) && ((q.size == 0) && ((q.tier == 0) && true))))))) (runs_eql (xs := [vi q.kind, vi q.id, vi q.cabin, vi q.from', vi q.size, vi q.tier]) (ys := [vi q.kind, vi q.id, vi 0, vi 0, vi 0, vi 0]) (r := (q.kind == q.kind) && ((q.id == q.id) && ((q.cabin == 0) && ((q.from' == 0) && ((q.size == 0) && ((q.tier == 0) && true)))))) ?_ ?_ ?_) ?_)
              · as_aux_lemma => kernel_rfl
              · as_aux_lemma => kernel_rfl
              · as_aux_lemma => kernel_rfl
              · as_aux_lemma => kernel_rfl
              refine RUN0 2 [] [(2, B ((q.kind == q.kind) && ((q.id == q.id) && ((q.cabin == 0) && ((q.from' == 0) && ((q.size == 0) && ((q.tier == 0) && true)))))))] ?_ rfl ?_
              · as_aux_lemma => kernel_rfl
              refine ENDOPS (NEXT (RET (OUTR (PASS trivial (FIN (.bool ((q.kind == q.kind) && ((q.id == q.id) && ((q.cabin == 0) && ((q.from' == 0) && ((q.size == 0) && ((q.tier == 0) && true))))))) ?_ () ?_ [] ?_)))))
              · as_aux_lemma => kernel_rfl
              · simp [RV, reqOk, reqEq, *]
              · rfl
            · -- usedB q.id = false
              have h16 := bh16
              refine RUN0 9 [] [(2, B false)] ?_ rfl ?_
              · as_aux_lemma => kernel_rfl
              refine ENDOPS (NEXT (RET (OUTR (PASS trivial (FIN (.bool false) ?_ () ?_ [] ?_)))))
              · as_aux_lemma => kernel_rfl
              · simp [RV, reqOk, reqEq, *]
              · rfl
          · -- q.kind == 7 = false
            have h15 := bh15
            have h15 := ne_of_beq_false h15
            refine SEQ (REGION [0, 1] rfl (RUN0 2 [] [(1, .p 0 0), (3, .v (.func (.func 53) #[] #[])), (5, I q.kind), (53, B (q.kind == 3))] ?_ rfl ?_))
            · as_aux_lemma => kernel_rfl
            refine ENDOPS (NEXT (IF (q.kind == 3) ?_ (fun bh17 => ?_) (fun bh17 => ?_)))
            · as_aux_lemma => kernel_rfl
            · -- q.kind == 3 = true
              have h17 := bh17
              have h17 := eq_of_beq h17
              refine SEQ (REGION [0, 1, 2, 3, 4, 5, 6, 7, 8, 9, 10, 11, 12, 13, 14, 15, 16, 17, 18, 19, 20, 21] rfl (RUN0 3 [3, 4, 5, 6, 7, 8, 9, 10, 11, 12, 13, 14, 15, 16, 17, 18, 19, 20, 21] [(1, .p 0 0), (3, .v (.func (.func 53) #[] #[])), (55, .v (.func (.func 53) #[] #[])), (57, I q.cabin)] ?_ rfl ?_))
              · as_aux_lemma => kernel_rfl
              refine OPC (CALL 53 #[vi q.cabin] (some 58) ?_ [] [] _ rfl (RV (.bool (usedB q.cabin))) (fun w hw => iReqOk1_c w q.cabin) (by rintro _ ⟨⟩; exact Nat.le_of_ble_eq_true rfl) ?_)
              · as_aux_lemma => kernel_rfl
              rintro ⟨⟩
              refine RUN0 1 [5, 6, 7, 8, 9, 10, 11, 12, 13, 14, 15, 16, 17, 18, 19, 20, 21] [(1, .p 0 0), (3, .v (.func (.func 53) #[] #[])), (59, B (usedB q.cabin))] ?_ rfl ?_
              · as_aux_lemma => kernel_rfl
              refine SPLIT (d := 59) (usedB q.cabin) ?_ (fun bh18 => ?_) (fun bh18 => ?_)
              · as_aux_lemma => kernel_rfl
              · -- usedB q.cabin = true
                have h18 := bh18
                refine RUN0 3 [8, 9, 10, 11, 12, 13, 14, 15, 16, 17, 18, 19, 20, 21] [(1, .p 0 0), (59, B true), (60, .v (.func (.func 53) #[] #[])), (62, I q.size)] ?_ rfl ?_
                · as_aux_lemma => kernel_rfl
                refine OPC (CALL 53 #[vi q.size] (some 63) ?_ [] [] _ rfl (RV (.bool (usedB q.size))) (fun w hw => iReqOk1_c w q.size) (by rintro _ ⟨⟩; exact Nat.le_of_ble_eq_true rfl) ?_)
                · as_aux_lemma => kernel_rfl
                rintro ⟨⟩
                refine RUN0 2 [11, 12, 13, 14, 15, 16, 17, 18, 19, 20, 21] [(1, .p 0 0), (65, B (usedB q.size))] ?_ rfl ?_
                · as_aux_lemma => kernel_rfl
                refine SPLIT (d := 65) (usedB q.size) ?_ (fun bh19 => ?_) (fun bh19 => ?_)
                · as_aux_lemma => kernel_rfl
                · -- usedB q.size = true
                  have h19 := bh19
                  refine RUN0 8 [19, 20, 21] [(65, B true), (66, .v (.agg #[vi q.kind, vi q.id, vi q.cabin, vi q.from', vi q.size, vi q.tier])), (73, .v (.agg #[vi q.kind, vi 0, vi q.cabin, vi 0, vi q.size, vi 0]))] ?_ rfl ?_
                  · as_aux_lemma => kernel_rfl
                  refine OPC (RUNV (.binOp .eql 34 (.tmp 66) (.tmp 73) 34) 74 4 ?_ (Nat.le_of_ble_eq_true rfl) (.bool ((q.kind == q.kind) && ((q.id == 0) && ((q.cabin == q.cabin) && ((q.from' == 0) && ((q.size == q.size) && ((q.tier == 0) && true))))))) (runs_eql (xs := [vi q.kind, vi q.id, vi q.cabin, vi q.from', vi q.size, vi q.tier]) (ys := [vi q.kind, vi 0, vi q.cabin, vi 0, vi q.size, vi 0]) (r := (q.kind == q.kind) && ((q.id == 0) && ((q.cabin == q.cabin) && ((q.from' == 0) && ((q.size == q.size) && ((q.tier == 0) && true)))))) ?_ ?_ ?_) ?_)
                  · as_aux_lemma => kernel_rfl
                  · as_aux_lemma => kernel_rfl
                  · as_aux_lemma => kernel_rfl
                  · as_aux_lemma => kernel_rfl
                  refine RUN0 2 [] [(2, B ((q.kind == q.kind) && ((q.id == 0) && ((q.cabin == q.cabin) && ((q.from' == 0) && ((q.size == q.size) && ((q.tier == 0) && true)))))))] ?_ rfl ?_
                  · as_aux_lemma => kernel_rfl
                  refine ENDOPS (NEXT (RET (OUTR (PASS trivial (FIN (.bool ((q.kind == q.kind) && ((q.id == 0) && ((q.cabin == q.cabin) && ((q.from' == 0) && ((q.size == q.size) && ((q.tier == 0) && true))))))) ?_ () ?_ [] ?_)))))
                  · as_aux_lemma => kernel_rfl
                  · simp [RV, reqOk, reqEq, *]
                  · rfl
                · -- usedB q.size = false
                  have h19 := bh19
                  refine RUN0 11 [] [(2, B false)] ?_ rfl ?_
                  · as_aux_lemma => kernel_rfl
                  refine ENDOPS (NEXT (RET (OUTR (PASS trivial (FIN (.bool false) ?_ () ?_ [] ?_)))))
                  · as_aux_lemma => kernel_rfl
                  · simp [RV, reqOk, reqEq, *]
                  · rfl
              · -- usedB q.cabin = false
                have h18 := bh18
                refine RUN0 17 [] [(2, B false)] ?_ rfl ?_
                · as_aux_lemma => kernel_rfl
                refine ENDOPS (NEXT (RET (OUTR (PASS trivial (FIN (.bool false) ?_ () ?_ [] ?_)))))
                · as_aux_lemma => kernel_rfl
                · simp [RV, reqOk, reqEq, *]
                · rfl
            · -- q.kind == 3 = false
              have h17 := bh17
              have h17 := ne_of_beq_false h17
              refine SEQ (REGION [0, 1] rfl (RUN0 2 [] [(1, .p 0 0), (76, B (q.kind == 6))] ?_ rfl ?_))
              · as_aux_lemma => kernel_rfl
              refine ENDOPS (NEXT (IF (q.kind == 6) ?_ (fun bh20 => ?_) (fun bh20 => ?_)))
              · as_aux_lemma => kernel_rfl
              · -- q.kind == 6 = true
                have h20 := bh20
                have h20 := eq_of_beq h20
                refine SEQ (REGION [0, 1, 2, 3] rfl (RUN0 2 [2, 3] [(78, .v (.agg #[vi q.kind, vi q.id, vi q.cabin, vi q.from', vi q.size, vi q.tier])), (79, .v (.agg #[vi 6, vi 0, vi 0, vi 0, vi 0, vi 0]))] ?_ rfl ?_))
                · as_aux_lemma => kernel_rfl
                refine OPC (RUNV (.binOp .eql 34 (.tmp 78) (.tmp 79) 34) 80 4 ?_ (Nat.le_of_ble_eq_true rfl) (.bool ((q.kind == 6) && ((q.id == 0) && ((q.cabin == 0) && ((q.from' == 0) && ((q.size == 0) && ((q.tier == 0) && true))))))) (runs_eql (xs := [vi q.kind, vi q.id, vi q.cabin, vi q.from', vi q.size, vi q.tier]) (ys := [vi 6, vi 0, vi 0, vi 0, vi 0, vi 0]) (r := (q.kind == 6) && ((q.id == 0) && ((q.cabin == 0) && ((q.from' == 0) && ((q.size == 0) && ((q.tier == 0) && true)))))) ?_ ?_ ?_) ?_)
                · as_aux_lemma => kernel_rfl
                · as_aux_lemma => kernel_rfl
                · as_aux_lemma => kernel_rfl
                · as_aux_lemma => kernel_rfl
                refine RUN0 1 [] [(2, B ((q.kind == 6) && ((q.id == 0) && ((q.cabin == 0) && ((q.from' == 0) && ((q.size == 0) && ((q.tier == 0) && true)))))))] ?_ rfl ?_
                · as_aux_lemma => kernel_rfl
                refine ENDOPS (NEXT (RET (OUTR (PASS trivial (FIN (.bool ((q.kind == 6) && ((q.id == 0) && ((q.cabin == 0) && ((q.from' == 0) && ((q.size == 0) && ((q.tier == 0) && true))))))) ?_ () ?_ [] ?_)))))
                · as_aux_lemma => kernel_rfl
                · simp [RV, reqOk, reqEq, *]
                · rfl
              · -- q.kind == 6 = false
                have h20 := bh20
                have h20 := ne_of_beq_false h20
                refine SKIP (OUTN (NEXT (SEQ (REGION [0] rfl (RUN0 1 [] [(2, B false)] ?_ rfl ?_)))))
                · as_aux_lemma => kernel_rfl
                refine ENDOPS (NEXT (RET (FIN (.bool false) ?_ () ?_ [] ?_)))
                · as_aux_lemma => kernel_rfl
                · simp [RV, reqOk, reqEq, *]
                · rfl

theorem sReqOk_c (W : World) (q : Req) : Spec Tryd.prog W [] 37 #[.agg #[vi q.kind, vi q.id, vi q.cabin, vi q.from', vi q.size, vi q.tier]] (RV (.bool (reqOk q))) := by
  refine ENTER0 (N := 75) (vs := [.agg #[vi q.kind, vi q.id, vi q.cabin, vi q.from', vi q.size, vi q.tier]]) Tryd.func37 rfl rfl (Nat.le_of_ble_eq_true rfl) ?_
  refine SEQ (REGION [0, 1] rfl (RUN 2 [] [(1, .p 0 0)] [(34, [vi q.kind, vi q.id, vi q.cabin, vi q.from', vi q.size, vi q.tier])] ?_ rfl ?_))
  · as_aux_lemma => kernel_rfl
  refine ENDOPS (NEXT (SEQ (SEQ (REGION [0, 1] rfl (RUN0 2 [] [(1, .p 0 0), (4, I q.kind)] ?_ rfl ?_)))))
  · as_aux_lemma => kernel_rfl
  refine ENDOPS (NEXT (BLOCK (SEQ (REGION [0, 1] rfl (RUN0 2 [] [(1, .p 0 0), (4, I q.kind), (5, B (q.kind == 1))] ?_ rfl ?_)))))
  · as_aux_lemma => kernel_rfl
  refine ENDOPS (NEXT (IF (q.kind == 1) ?_ (fun bh1 => ?_) (fun bh1 => ?_)))
  · as_aux_lemma => kernel_rfl
  · -- q.kind == 1 = true
    have h1 := bh1
    have h1 := eq_of_beq h1
    refine SEQ (REGION [0, 1, 2, 3, 4, 5, 6, 7, 8, 9, 10, 11, 12, 13, 14, 15, 16, 17, 18, 19, 20, 21, 22, 23] rfl (RUN0 2 [2, 3, 4, 5, 6, 7, 8, 9, 10, 11, 12, 13, 14, 15, 16, 17, 18, 19, 20, 21, 22, 23] [(1, .p 0 0), (8, I q.id)] ?_ rfl ?_))
    · as_aux_lemma => kernel_rfl
    refine OPC (CALL 52 #[vi q.id] (some 9) ?_ [] [] _ rfl (RV (.bool (usedB q.id))) (fun w hw => l12Field_c w q.id) (by rintro _ ⟨⟩; exact Nat.le_of_ble_eq_true rfl) ?_)
    · as_aux_lemma => kernel_rfl
    rintro ⟨⟩
    refine RUN0 1 [4, 5, 6, 7, 8, 9, 10, 11, 12, 13, 14, 15, 16, 17, 18, 19, 20, 21, 22, 23] [(1, .p 0 0), (10, B (usedB q.id))] ?_ rfl ?_
    · as_aux_lemma => kernel_rfl
    refine SPLIT (d := 10) (usedB q.id) ?_ (fun bh2 => ?_) (fun bh2 => ?_)
    · as_aux_lemma => kernel_rfl
    · -- usedB q.id = true
      have h2 := bh2
      refine RUN0 2 [6, 7, 8, 9, 10, 11, 12, 13, 14, 15, 16, 17, 18, 19, 20, 21, 22, 23] [(1, .p 0 0), (10, B true), (12, I q.cabin)] ?_ rfl ?_
      · as_aux_lemma => kernel_rfl
      refine OPC (CALL 52 #[vi q.cabin] (some 13) ?_ [] [] _ rfl (RV (.bool (usedB q.cabin))) (fun w hw => l12Field_c w q.cabin) (by rintro _ ⟨⟩; exact Nat.le_of_ble_eq_true rfl) ?_)
      · as_aux_lemma => kernel_rfl
      rintro ⟨⟩
      refine RUN0 2 [9, 10, 11, 12, 13, 14, 15, 16, 17, 18, 19, 20, 21, 22, 23] [(1, .p 0 0), (15, B (usedB q.cabin))] ?_ rfl ?_
      · as_aux_lemma => kernel_rfl
      refine SPLIT (d := 15) (usedB q.cabin) ?_ (fun bh3 => ?_) (fun bh3 => ?_)
      · as_aux_lemma => kernel_rfl
      · -- usedB q.cabin = true
        have h3 := bh3
        refine RUN0 2 [11, 12, 13, 14, 15, 16, 17, 18, 19, 20, 21, 22, 23] [(1, .p 0 0), (15, B true), (17, I q.from')] ?_ rfl ?_
        · as_aux_lemma => kernel_rfl
        refine OPC (CALL 48 #[vi q.from', vi (-1), vi 9999] (some 18) ?_ [] [] _ rfl (RV (.bool (inB q.from' (-1) 9999))) (fun w hw => l1In_c w q.from' (-1) 9999) (by rintro _ ⟨⟩; exact Nat.le_of_ble_eq_true rfl) ?_)
        · as_aux_lemma => kernel_rfl
        rintro ⟨⟩
        refine RUN0 2 [14, 15, 16, 17, 18, 19, 20, 21, 22, 23] [(1, .p 0 0), (20, B (inB q.from' (-1) 9999))] ?_ rfl ?_
        · as_aux_lemma => kernel_rfl
        refine SPLIT (d := 20) (inB q.from' (-1) 9999) ?_ (fun bh4 => ?_) (fun bh4 => ?_)
        · as_aux_lemma => kernel_rfl
        · -- inB q.from' (-1) 9999 = true
          have h4 := bh4
          refine RUN0 2 [16, 17, 18, 19, 20, 21, 22, 23] [(1, .p 0 0), (20, B true), (22, I q.size)] ?_ rfl ?_
          · as_aux_lemma => kernel_rfl
          refine OPC (CALL 52 #[vi q.size] (some 23) ?_ [] [] _ rfl (RV (.bool (usedB q.size))) (fun w hw => l12Field_c w q.size) (by rintro _ ⟨⟩; exact Nat.le_of_ble_eq_true rfl) ?_)
          · as_aux_lemma => kernel_rfl
          rintro ⟨⟩
          refine RUN0 2 [19, 20, 21, 22, 23] [(1, .p 0 0), (25, B (usedB q.size))] ?_ rfl ?_
          · as_aux_lemma => kernel_rfl
          refine SPLIT (d := 25) (usedB q.size) ?_ (fun bh5 => ?_) (fun bh5 => ?_)
          · as_aux_lemma => kernel_rfl
          · -- usedB q.size = true
            have h5 := bh5
            refine RUN0 2 [21, 22, 23] [(25, B true), (27, I q.tier)] ?_ rfl ?_
            · as_aux_lemma => kernel_rfl
            refine OPC (CALL 52 #[vi q.tier] (some 28) ?_ [] [] _ rfl (RV (.bool (usedB q.tier))) (fun w hw => l12Field_c w q.tier) (by rintro _ ⟨⟩; exact Nat.le_of_ble_eq_true rfl) ?_)
            · as_aux_lemma => kernel_rfl
            rintro ⟨⟩
            refine RUN0 2 [] [(2, B (usedB q.tier))] ?_ rfl ?_
            · as_aux_lemma => kernel_rfl
            refine ENDOPS (NEXT (RET (OUTR (PASS trivial (FIN (.bool (usedB q.tier)) ?_ () ?_ [] ?_)))))
            · as_aux_lemma => kernel_rfl
            · simp [RV, reqOk, reqEq, *]
            · rfl
          · -- usedB q.size = false
            have h5 := bh5
            refine RUN0 5 [] [(2, B false)] ?_ rfl ?_
            · as_aux_lemma => kernel_rfl
            refine ENDOPS (NEXT (RET (OUTR (PASS trivial (FIN (.bool false) ?_ () ?_ [] ?_)))))
            · as_aux_lemma => kernel_rfl
            · simp [RV, reqOk, reqEq, *]
            · rfl
        · -- inB q.from' (-1) 9999 = false
          have h4 := bh4
          refine RUN0 10 [] [(2, B false)] ?_ rfl ?_
          · as_aux_lemma => kernel_rfl
          refine ENDOPS (NEXT (RET (OUTR (PASS trivial (FIN (.bool false) ?_ () ?_ [] ?_)))))
          · as_aux_lemma => kernel_rfl
          · simp [RV, reqOk, reqEq, *]
          · rfl
      · -- usedB q.cabin = false
        have h3 := bh3
        refine RUN0 15 [] [(2, B false)] ?_ rfl ?_
        · as_aux_lemma => kernel_rfl
        refine ENDOPS (NEXT (RET (OUTR (PASS trivial (FIN (.bool false) ?_ () ?_ [] ?_)))))
        · as_aux_lemma => kernel_rfl
        · simp [RV, reqOk, reqEq, *]
        · rfl
    · -- usedB q.id = false
      have h2 := bh2
      refine RUN0 20 [] [(2, B false)] ?_ rfl ?_
      · as_aux_lemma => kernel_rfl
      refine ENDOPS (NEXT (RET (OUTR (PASS trivial (FIN (.bool false) ?_ () ?_ [] ?_)))))
      · as_aux_lemma => kernel_rfl
      · simp [RV, reqOk, reqEq, *]
      · rfl
  · -- q.kind == 1 = false
    have h1 := bh1
    have h1 := ne_of_beq_false h1
    refine SEQ (SEQ (REGION [0, 1] rfl (RUN0 2 [] [(1, .p 0 0), (4, I q.kind), (30, B (q.kind == 2))] ?_ rfl ?_)))
    · as_aux_lemma => kernel_rfl
    refine ENDOPS (NEXT (IF (q.kind == 2) ?_ (fun bh6 => ?_) (fun bh6 => ?_)))
    · as_aux_lemma => kernel_rfl
    · -- q.kind == 2 = true
      have h6 := bh6
      have h6 := eq_of_beq h6
      refine SKIP (NEXT (IF (q.kind == 2) ?_ (fun bh7 => ?_) (fun bh7 => ?_)))
      · as_aux_lemma => kernel_rfl
      · -- q.kind == 2 = true
        have h7 := bh7
        have h7 := eq_of_beq h7
        refine SEQ (REGION [0, 1, 2, 3, 4, 5, 6, 7, 8, 9, 10, 11, 12] rfl (RUN0 2 [2, 3, 4, 5, 6, 7, 8, 9, 10, 11, 12] [(1, .p 0 0), (36, I q.id)] ?_ rfl ?_))
        · as_aux_lemma => kernel_rfl
        refine OPC (CALL 52 #[vi q.id] (some 37) ?_ [] [] _ rfl (RV (.bool (usedB q.id))) (fun w hw => l12Field_c w q.id) (by rintro _ ⟨⟩; exact Nat.le_of_ble_eq_true rfl) ?_)
        · as_aux_lemma => kernel_rfl
        rintro ⟨⟩
        refine RUN0 1 [4, 5, 6, 7, 8, 9, 10, 11, 12] [(1, .p 0 0), (38, B (usedB q.id))] ?_ rfl ?_
        · as_aux_lemma => kernel_rfl
        refine SPLIT (d := 38) (usedB q.id) ?_ (fun bh8 => ?_) (fun bh8 => ?_)
        · as_aux_lemma => kernel_rfl
        · -- usedB q.id = true
          have h8 := bh8
          refine RUN0 6 [10, 11, 12] [(38, B true), (39, .v (.agg #[vi q.kind, vi q.id, vi q.cabin, vi q.from', vi q.size, vi q.tier])), (44, .v (.agg #[vi q.kind, vi q.id, vi 0, vi 0, vi 0, vi 0]))] ?_ rfl ?_
          · as_aux_lemma => kernel_rfl
          refine OPC (RUNV (.binOp .eql 34 (.tmp 39) (.tmp 44) 34) 45 4 ?_ (Nat.le_of_ble_eq_true rfl) (.bool ((q.kind == q.kind) && ((q.id == q.id) && ((q.cabin == 0) && ((q.from' == 0) && ((q.size == 0) && ((q.tier == 0) && true))))))) (runs_eql (xs := [vi q.kind, vi q.id, vi q.cabin, vi q.from', vi q.size, vi q.tier]) (ys := [vi q.kind, vi q.id, vi 0, vi 0, vi 0, vi 0]) (r := (q.kind == q.kind) && ((q.id == q.id) && ((q.cabin == 0) && ((q.from' == 0) && ((q.size == 0) && ((q.tier == 0) && true)))))) ?_ ?_ ?_) ?_)
          · as_aux_lemma => kernel_rfl
          · as_aux_lemma => kernel_rfl
          · as_aux_lemma => kernel_rfl
          · as_aux_lemma => kernel_rfl
          refine RUN0 2 [] [(2, B ((q.kind == q.kind) && ((q.id == q.id) && ((q.cabin == 0) && ((q.from' == 0) && ((q.size == 0) && ((q.tier == 0) && true)))))))] ?_ rfl ?_
          · as_aux_lemma => kernel_rfl
          refine ENDOPS (NEXT (RET (OUTR (PASS trivial (FIN (.bool ((q.kind == q.kind) && ((q.id == q.id) && ((q.cabin == 0) && ((q.from' == 0) && ((q.size == 0) && ((q.tier == 0) && true))))))) ?_ () ?_ [] ?_)))))
          · as_aux_lemma => kernel_rfl
          · simp [RV, reqOk, reqEq, *]
          · rfl
        · -- usedB q.id = false
          have h8 := bh8
          refine RUN0 9 [] [(2, B false)] ?_ rfl ?_
          · as_aux_lemma => kernel_rfl
          refine ENDOPS (NEXT (RET (OUTR (PASS trivial (FIN (.bool false) ?_ () ?_ [] ?_)))))
          · as_aux_lemma => kernel_rfl
          · simp [RV, reqOk, reqEq, *]
          · rfl
      · exact Bool.noConfusion (bh6.symm.trans bh7)
    · -- q.kind == 2 = false
      have h6 := bh6
      have h6 := ne_of_beq_false h6
      refine SEQ (REGION [0, 1] rfl (RUN0 2 [] [(1, .p 0 0), (4, I q.kind), (30, B (q.kind == 4))] ?_ rfl ?_))
      · as_aux_lemma => kernel_rfl
      refine ENDOPS (NEXT (IF (q.kind == 4) ?_ (fun bh9 => ?_) (fun bh9 => ?_)))
      · as_aux_lemma => kernel_rfl
      · -- q.kind == 4 = true
        have h9 := bh9
        have h9 := eq_of_beq h9
        refine SKIP (NEXT (IF (q.kind == 4) ?_ (fun bh10 => ?_) (fun bh10 => ?_)))
        · as_aux_lemma => kernel_rfl
        · -- q.kind == 4 = true
          have h10 := bh10
          have h10 := eq_of_beq h10
          refine SEQ (REGION [0, 1, 2, 3, 4, 5, 6, 7, 8, 9, 10, 11, 12] rfl (RUN0 2 [2, 3, 4, 5, 6, 7, 8, 9, 10, 11, 12] [(1, .p 0 0), (36, I q.id)] ?_ rfl ?_))
          · as_aux_lemma => kernel_rfl
          refine OPC (CALL 52 #[vi q.id] (some 37) ?_ [] [] _ rfl (RV (.bool (usedB q.id))) (fun w hw => l12Field_c w q.id) (by rintro _ ⟨⟩; exact Nat.le_of_ble_eq_true rfl) ?_)
          · as_aux_lemma => kernel_rfl
          rintro ⟨⟩
          refine RUN0 1 [4, 5, 6, 7, 8, 9, 10, 11, 12] [(1, .p 0 0), (38, B (usedB q.id))] ?_ rfl ?_
          · as_aux_lemma => kernel_rfl
          refine SPLIT (d := 38) (usedB q.id) ?_ (fun bh11 => ?_) (fun bh11 => ?_)
          · as_aux_lemma => kernel_rfl
          · -- usedB q.id = true
            have h11 := bh11
            refine RUN0 6 [10, 11, 12] [(38, B true), (39, .v (.agg #[vi q.kind, vi q.id, vi q.cabin, vi q.from', vi q.size, vi q.tier])), (44, .v (.agg #[vi q.kind, vi q.id, vi 0, vi 0, vi 0, vi 0]))] ?_ rfl ?_
            · as_aux_lemma => kernel_rfl
            refine OPC (RUNV (.binOp .eql 34 (.tmp 39) (.tmp 44) 34) 45 4 ?_ (Nat.le_of_ble_eq_true rfl) (.bool ((q.kind == q.kind) && ((q.id == q.id) && ((q.cabin == 0) && ((q.from' == 0) && ((q.size == 0) && ((q.tier == 0) && true))))))) (runs_eql (xs := [vi q.kind, vi q.id, vi q.cabin, vi q.from', vi q.size, vi q.tier]) (ys := [vi q.kind, vi q.id, vi 0, vi 0, vi 0, vi 0]) (r := (q.kind == q.kind) && ((q.id == q.id) && ((q.cabin == 0) && ((q.from' == 0) && ((q.size == 0) && ((q.tier == 0) && true)))))) ?_ ?_ ?_) ?_)
            · as_aux_lemma => kernel_rfl
            · as_aux_lemma => kernel_rfl
            · as_aux_lemma => kernel_rfl
            · as_aux_lemma => kernel_rfl
            refine RUN0 2 [] [(2, B ((q.kind == q.kind) && ((q.id == q.id) && ((q.cabin == 0) && ((q.from' == 0) && ((q.size == 0) && ((q.tier == 0) && true)))))))] ?_ rfl ?_
            · as_aux_lemma => kernel_rfl
            refine ENDOPS (NEXT (RET (OUTR (PASS trivial (FIN (.bool ((q.kind == q.kind) && ((q.id == q.id) && ((q.cabin == 0) && ((q.from' == 0) && ((q.size == 0) && ((q.tier == 0) && true))))))) ?_ () ?_ [] ?_)))))
            · as_aux_lemma => kernel_rfl
            · simp [RV, reqOk, reqEq, *]
            · rfl
          · -- usedB q.id = false
            have h11 := bh11
            refine RUN0 9 [] [(2, B false)] ?_ rfl ?_
            · as_aux_lemma => kernel_rfl
            refine ENDOPS (NEXT (RET (OUTR (PASS trivial (FIN (.bool false) ?_ () ?_ [] ?_)))))
            · as_aux_lemma => kernel_rfl
            · simp [RV, reqOk, reqEq, *]
            · rfl
        · exact Bool.noConfusion (bh9.symm.trans bh10)
      · -- q.kind == 4 = false
        have h9 := bh9
        have h9 := ne_of_beq_false h9
        refine SEQ (REGION [0, 1] rfl (RUN0 2 [] [(1, .p 0 0), (4, I q.kind), (30, B (q.kind == 5))] ?_ rfl ?_))
        · as_aux_lemma => kernel_rfl
        refine ENDOPS (NEXT (IF (q.kind == 5) ?_ (fun bh12 => ?_) (fun bh12 => ?_)))
        · as_aux_lemma => kernel_rfl
        · -- q.kind == 5 = true
          have h12 := bh12
          have h12 := eq_of_beq h12
          refine SKIP (NEXT (IF (q.kind == 5) ?_ (fun bh13 => ?_) (fun bh13 => ?_)))
          · as_aux_lemma => kernel_rfl
          · -- q.kind == 5 = true
            have h13 := bh13
            have h13 := eq_of_beq h13
            refine SEQ (REGION [0, 1, 2, 3, 4, 5, 6, 7, 8, 9, 10, 11, 12] rfl (RUN0 2 [2, 3, 4, 5, 6, 7, 8, 9, 10, 11, 12] [(1, .p 0 0), (36, I q.id)] ?_ rfl ?_))
            · as_aux_lemma => kernel_rfl
            refine OPC (CALL 52 #[vi q.id] (some 37) ?_ [] [] _ rfl (RV (.bool (usedB q.id))) (fun w hw => l12Field_c w q.id) (by rintro _ ⟨⟩; exact Nat.le_of_ble_eq_true rfl) ?_)
            · as_aux_lemma => kernel_rfl
            rintro ⟨⟩
            refine RUN0 1 [4, 5, 6, 7, 8, 9, 10, 11, 12] [(1, .p 0 0), (38, B (usedB q.id))] ?_ rfl ?_
            · as_aux_lemma => kernel_rfl
            refine SPLIT (d := 38) (usedB q.id) ?_ (fun bh14 => ?_) (fun bh14 => ?_)
            · as_aux_lemma => kernel_rfl
            · -- usedB q.id = true
              have h14 := bh14
              refine RUN0 6 [10, 11, 12] [(38, B true), (39, .v (.agg #[vi q.kind, vi q.id, vi q.cabin, vi q.from', vi q.size, vi q.tier])), (44, .v (.agg #[vi q.kind, vi q.id, vi 0, vi 0, vi 0, vi 0]))] ?_ rfl ?_
              · as_aux_lemma => kernel_rfl
              refine OPC (RUNV (.binOp .eql 34 (.tmp 39) (.tmp 44) 34) 45 4 ?_ (Nat.le_of_ble_eq_true rfl) (.bool ((q.kind == q.kind) && ((q.id == q.id) && ((q.cabin == 0) && ((q.from' == 0) && ((q.size == 0) && ((q.tier == 0) && true))))))) (runs_eql (xs := [vi q.kind, vi q.id, vi q.cabin, vi q.from', vi q.size, vi q.tier]) (ys := [vi q.kind, vi q.id, vi 0, vi 0, vi 0, vi 0]) (r := (q.kind == q.kind) && ((q.id == q.id) && ((q.cabin == 0) && ((q.from' == 0) && ((q.size == 0) && ((q.tier == 0) && true)))))) ?_ ?_ ?_) ?_)
              · as_aux_lemma => kernel_rfl
              · as_aux_lemma => kernel_rfl
              · as_aux_lemma => kernel_rfl
              · as_aux_lemma => kernel_rfl
              refine RUN0 2 [] [(2, B ((q.kind == q.kind) && ((q.id == q.id) && ((q.cabin == 0) && ((q.from' == 0) && ((q.size == 0) && ((q.tier == 0) && true)))))))] ?_ rfl ?_
              · as_aux_lemma => kernel_rfl
              refine ENDOPS (NEXT (RET (OUTR (PASS trivial (FIN (.bool ((q.kind == q.kind) && ((q.id == q.id) && ((q.cabin == 0) && ((q.from' == 0) && ((q.size == 0) && ((q.tier == 0) && true))))))) ?_ () ?_ [] ?_)))))
              · as_aux_lemma => kernel_rfl
              · simp [RV, reqOk, reqEq, *]
              · rfl
            · -- usedB q.id = false
              have h14 := bh14
              refine RUN0 9 [] [(2, B false)] ?_ rfl ?_
              · as_aux_lemma => kernel_rfl
              refine ENDOPS (NEXT (RET (OUTR (PASS trivial (FIN (.bool false) ?_ () ?_ [] ?_)))))
              · as_aux_lemma => kernel_rfl
              · simp [RV, reqOk, reqEq, *]
              · rfl
          · exact Bool.noConfusion (bh12.symm.trans bh13)
        · -- q.kind == 5 = false
          have h12 := bh12
          have h12 := ne_of_beq_false h12
          refine REGION [0, 1] rfl (RUN0 2 [] [(1, .p 0 0), (4, I q.kind), (30, B (q.kind == 7))] ?_ rfl ?_)
          · as_aux_lemma => kernel_rfl
          refine ENDOPS (NEXT (IF (q.kind == 7) ?_ (fun bh15 => ?_) (fun bh15 => ?_)))
          · as_aux_lemma => kernel_rfl
          · -- q.kind == 7 = true
            have h15 := bh15
            have h15 := eq_of_beq h15
            refine SEQ (REGION [0, 1, 2, 3, 4, 5, 6, 7, 8, 9, 10, 11, 12] rfl (RUN0 2 [2, 3, 4, 5, 6, 7, 8, 9, 10, 11, 12] [(1, .p 0 0), (36, I q.id)] ?_ rfl ?_))
            · as_aux_lemma => kernel_rfl
            refine OPC (CALL 52 #[vi q.id] (some 37) ?_ [] [] _ rfl (RV (.bool (usedB q.id))) (fun w hw => l12Field_c w q.id) (by rintro _ ⟨⟩; exact Nat.le_of_ble_eq_true rfl) ?_)
            · as_aux_lemma => kernel_rfl
            rintro ⟨⟩
            refine RUN0 1 [4, 5, 6, 7, 8, 9, 10, 11, 12] [(1, .p 0 0), (38, B (usedB q.id))] ?_ rfl ?_
            · as_aux_lemma => kernel_rfl
            refine SPLIT (d := 38) (usedB q.id) ?_ (fun bh16 => ?_) (fun bh16 => ?_)
            · as_aux_lemma => kernel_rfl
            · -- usedB q.id = true
              have h16 := bh16
              refine RUN0 6 [10, 11, 12] [(38, B true), (39, .v (.agg #[vi q.kind, vi q.id, vi q.cabin, vi q.from', vi q.size, vi q.tier])), (44, .v (.agg #[vi q.kind, vi q.id, vi 0, vi 0, vi 0, vi 0]))] ?_ rfl ?_
              · as_aux_lemma => kernel_rfl
              refine OPC (RUNV (.binOp .eql 34 (.tmp 39) (.tmp 44) 34) 45 4 ?_ (Nat.le_of_ble_eq_true rfl) (.bool ((q.kind == q.kind) && ((q.id == q.id) && ((q.cabin == 0) && ((q.from' == 0) && ((q.size == 0) && ((q.tier == 0) && true))))))) (runs_eql (xs := [vi q.kind, vi q.id, vi q.cabin, vi q.from', vi q.size, vi q.tier]) (ys := [vi q.kind, vi q.id, vi 0, vi 0, vi 0, vi 0]) (r := (q.kind == q.kind) && ((q.id == q.id) && ((q.cabin == 0) && ((q.from' == 0) && ((q.size == 0) && ((q.tier == 0) && true)))))) ?_ ?_ ?_) ?_)
              · as_aux_lemma => kernel_rfl
              · as_aux_lemma => kernel_rfl
              · as_aux_lemma => kernel_rfl
              · as_aux_lemma => kernel_rfl
              refine RUN0 2 [] [(2, B ((q.kind == q.kind) && ((q.id == q.id) && ((q.cabin == 0) && ((q.from' == 0) && ((q.size == 0) && ((q.tier == 0) && true)))))))] ?_ rfl ?_
              · as_aux_lemma => kernel_rfl
              refine ENDOPS (NEXT (RET (OUTR (PASS trivial (FIN (.bool ((q.kind == q.kind) && ((q.id == q.id) && ((q.cabin == 0) && ((q.from' == 0) && ((q.size == 0) && ((q.tier == 0) && true))))))) ?_ () ?_ [] ?_)))))
              · as_aux_lemma => kernel_rfl
              · simp [RV, reqOk, reqEq, *]
              · rfl
            · -- usedB q.id = false
              have h16 := bh16
              refine RUN0 9 [] [(2, B false)] ?_ rfl ?_
              · as_aux_lemma => kernel_rfl
              refine ENDOPS (NEXT (RET (OUTR (PASS trivial (FIN (.bool false) ?_ () ?_ [] ?_)))))
              · as_aux_lemma => kernel_rfl
              · simp [RV, reqOk, reqEq, *]
              · rfl
          · -- q.kind == 7 = false
            have h15 := bh15
            have h15 := ne_of_beq_false h15
            refine SEQ (REGION [0, 1] rfl (RUN0 2 [] [(1, .p 0 0), (4, I q.kind), (47, B (q.kind == 3))] ?_ rfl ?_))
            · as_aux_lemma => kernel_rfl
            refine ENDOPS (NEXT (IF (q.kind == 3) ?_ (fun bh17 => ?_) (fun bh17 => ?_)))
            · as_aux_lemma => kernel_rfl
            · -- q.kind == 3 = true
              have h17 := bh17
              have h17 := eq_of_beq h17
              refine SEQ (REGION [0, 1, 2, 3, 4, 5, 6, 7, 8, 9, 10, 11, 12, 13, 14, 15, 16, 17, 18, 19] rfl (RUN0 2 [2, 3, 4, 5, 6, 7, 8, 9, 10, 11, 12, 13, 14, 15, 16, 17, 18, 19] [(1, .p 0 0), (50, I q.cabin)] ?_ rfl ?_))
              · as_aux_lemma => kernel_rfl
              refine OPC (CALL 52 #[vi q.cabin] (some 51) ?_ [] [] _ rfl (RV (.bool (usedB q.cabin))) (fun w hw => l12Field_c w q.cabin) (by rintro _ ⟨⟩; exact Nat.le_of_ble_eq_true rfl) ?_)
              · as_aux_lemma => kernel_rfl
              rintro ⟨⟩
              refine RUN0 1 [4, 5, 6, 7, 8, 9, 10, 11, 12, 13, 14, 15, 16, 17, 18, 19] [(1, .p 0 0), (52, B (usedB q.cabin))] ?_ rfl ?_
              · as_aux_lemma => kernel_rfl
              refine SPLIT (d := 52) (usedB q.cabin) ?_ (fun bh18 => ?_) (fun bh18 => ?_)
              · as_aux_lemma => kernel_rfl
              · -- usedB q.cabin = true
                have h18 := bh18
                refine RUN0 2 [6, 7, 8, 9, 10, 11, 12, 13, 14, 15, 16, 17, 18, 19] [(1, .p 0 0), (52, B true), (54, I q.size)] ?_ rfl ?_
                · as_aux_lemma => kernel_rfl
                refine OPC (CALL 52 #[vi q.size] (some 55) ?_ [] [] _ rfl (RV (.bool (usedB q.size))) (fun w hw => l12Field_c w q.size) (by rintro _ ⟨⟩; exact Nat.le_of_ble_eq_true rfl) ?_)
                · as_aux_lemma => kernel_rfl
                rintro ⟨⟩
                refine RUN0 2 [9, 10, 11, 12, 13, 14, 15, 16, 17, 18, 19] [(1, .p 0 0), (57, B (usedB q.size))] ?_ rfl ?_
                · as_aux_lemma => kernel_rfl
                refine SPLIT (d := 57) (usedB q.size) ?_ (fun bh19 => ?_) (fun bh19 => ?_)
                · as_aux_lemma => kernel_rfl
                · -- usedB q.size = true
                  have h19 := bh19
                  refine RUN0 8 [17, 18, 19] [(57, B true), (58, .v (.agg #[vi q.kind, vi q.id, vi q.cabin, vi q.from', vi q.size, vi q.tier])), (65, .v (.agg #[vi q.kind, vi 0, vi q.cabin, vi 0, vi q.size, vi 0]))] ?_ rfl ?_
                  · as_aux_lemma => kernel_rfl
                  refine OPC (RUNV (.binOp .eql 34 (.tmp 58) (.tmp 65) 34) 66 4 ?_ (Nat.le_of_ble_eq_true rfl) (.bool ((q.kind == q.kind) && ((q.id == 0) && ((q.cabin == q.cabin) && ((q.from' == 0) && ((q.size == q.size) && ((q.tier == 0) && true))))))) (runs_eql (xs := [vi q.kind, vi q.id, vi q.cabin, vi q.from', vi q.size, vi q.tier]) (ys := [vi q.kind, vi 0, vi q.cabin, vi 0, vi q.size, vi 0]) (r := (q.kind == q.kind) && ((q.id == 0) && ((q.cabin == q.cabin) && ((q.from' == 0) && ((q.size == q.size) && ((q.tier == 0) && true)))))) ?_ ?_ ?_) ?_)
                  · as_aux_lemma => kernel_rfl
                  · as_aux_lemma => kernel_rfl
                  · as_aux_lemma => kernel_rfl
                  · as_aux_lemma => kernel_rfl
                  refine RUN0 2 [] [(2, B ((q.kind == q.kind) && ((q.id == 0) && ((q.cabin == q.cabin) && ((q.from' == 0) && ((q.size == q.size) && ((q.tier == 0) && true)))))))] ?_ rfl ?_
                  · as_aux_lemma => kernel_rfl
                  refine ENDOPS (NEXT (RET (OUTR (PASS trivial (FIN (.bool ((q.kind == q.kind) && ((q.id == 0) && ((q.cabin == q.cabin) && ((q.from' == 0) && ((q.size == q.size) && ((q.tier == 0) && true))))))) ?_ () ?_ [] ?_)))))
                  · as_aux_lemma => kernel_rfl
                  · simp [RV, reqOk, reqEq, *]
                  · rfl
                · -- usedB q.size = false
                  have h19 := bh19
                  refine RUN0 11 [] [(2, B false)] ?_ rfl ?_
                  · as_aux_lemma => kernel_rfl
                  refine ENDOPS (NEXT (RET (OUTR (PASS trivial (FIN (.bool false) ?_ () ?_ [] ?_)))))
                  · as_aux_lemma => kernel_rfl
                  · simp [RV, reqOk, reqEq, *]
                  · rfl
              · -- usedB q.cabin = false
                have h18 := bh18
                refine RUN0 16 [] [(2, B false)] ?_ rfl ?_
                · as_aux_lemma => kernel_rfl
                refine ENDOPS (NEXT (RET (OUTR (PASS trivial (FIN (.bool false) ?_ () ?_ [] ?_)))))
                · as_aux_lemma => kernel_rfl
                · simp [RV, reqOk, reqEq, *]
                · rfl
            · -- q.kind == 3 = false
              have h17 := bh17
              have h17 := ne_of_beq_false h17
              refine SEQ (REGION [0, 1] rfl (RUN0 2 [] [(1, .p 0 0), (68, B (q.kind == 6))] ?_ rfl ?_))
              · as_aux_lemma => kernel_rfl
              refine ENDOPS (NEXT (IF (q.kind == 6) ?_ (fun bh20 => ?_) (fun bh20 => ?_)))
              · as_aux_lemma => kernel_rfl
              · -- q.kind == 6 = true
                have h20 := bh20
                have h20 := eq_of_beq h20
                refine SEQ (REGION [0, 1, 2, 3, 4, 5] rfl (RUN0 4 [4, 5] [(70, .v (.agg #[vi q.kind, vi q.id, vi q.cabin, vi q.from', vi q.size, vi q.tier])), (73, .v (.agg #[vi q.kind, vi 0, vi 0, vi 0, vi 0, vi 0]))] ?_ rfl ?_))
                · as_aux_lemma => kernel_rfl
                refine OPC (RUNV (.binOp .eql 34 (.tmp 70) (.tmp 73) 34) 74 4 ?_ (Nat.le_of_ble_eq_true rfl) (.bool ((q.kind == q.kind) && ((q.id == 0) && ((q.cabin == 0) && ((q.from' == 0) && ((q.size == 0) && ((q.tier == 0) && true))))))) (runs_eql (xs := [vi q.kind, vi q.id, vi q.cabin, vi q.from', vi q.size, vi q.tier]) (ys := [vi q.kind, vi 0, vi 0, vi 0, vi 0, vi 0]) (r := (q.kind == q.kind) && ((q.id == 0) && ((q.cabin == 0) && ((q.from' == 0) && ((q.size == 0) && ((q.tier == 0) && true)))))) ?_ ?_ ?_) ?_)
                · as_aux_lemma => kernel_rfl
                · as_aux_lemma => kernel_rfl
                · as_aux_lemma => kernel_rfl
                · as_aux_lemma => kernel_rfl
                refine RUN0 1 [] [(2, B ((q.kind == q.kind) && ((q.id == 0) && ((q.cabin == 0) && ((q.from' == 0) && ((q.size == 0) && ((q.tier == 0) && true)))))))] ?_ rfl ?_
                · as_aux_lemma => kernel_rfl
                refine ENDOPS (NEXT (RET (OUTR (PASS trivial (FIN (.bool ((q.kind == q.kind) && ((q.id == 0) && ((q.cabin == 0) && ((q.from' == 0) && ((q.size == 0) && ((q.tier == 0) && true))))))) ?_ () ?_ [] ?_)))))
                · as_aux_lemma => kernel_rfl
                · simp [RV, reqOk, reqEq, *]
                · rfl
              · -- q.kind == 6 = false
                have h20 := bh20
                have h20 := ne_of_beq_false h20
                refine SKIP (OUTN (NEXT (SEQ (REGION [0] rfl (RUN0 1 [] [(2, B false)] ?_ rfl ?_)))))
                · as_aux_lemma => kernel_rfl
                refine ENDOPS (NEXT (RET (FIN (.bool false) ?_ () ?_ [] ?_)))
                · as_aux_lemma => kernel_rfl
                · simp [RV, reqOk, reqEq, *]
                · rfl

theorem toReq_c (W : World) (a : Req) : Spec Tryd.prog W [] 14 #[.agg #[vi a.kind, vi a.id, vi a.cabin, vi a.from', vi a.size, vi a.tier]] (RV (.agg #[vi a.kind, vi a.id, vi a.cabin, vi a.from', vi a.size, vi a.tier])) := by
  refine ENTER0 (N := 23) (vs := [.agg #[vi a.kind, vi a.id, vi a.cabin, vi a.from', vi a.size, vi a.tier]]) Tryd.func14 rfl rfl (Nat.le_of_ble_eq_true rfl) ?_
  refine SEQ (REGION [0, 1] rfl (RUN 2 [] [(1, .p 0 0), (2, .p 1 0)] [(32, [vi a.kind, vi a.id, vi a.cabin, vi a.from', vi a.size, vi a.tier]), (34, [vi 0, vi 0, vi 0, vi 0, vi 0, vi 0])] ?_ rfl ?_))
  · as_aux_lemma => kernel_rfl
  refine ENDOPS (NEXT (SEQ (REGION [0] rfl (RUN 1 [] [(1, .p 0 0), (2, .p 1 0), (3, .p 2 0)] [(32, [vi a.kind, vi a.id, vi a.cabin, vi a.from', vi a.size, vi a.tier]), (34, [vi 0, vi 0, vi 0, vi 0, vi 0, vi 0]), (34, [vi 0, vi 0, vi 0, vi 0, vi 0, vi 0])] ?_ rfl ?_))))
  · as_aux_lemma => kernel_rfl
  refine ENDOPS (NEXT (SEQ (REGION [0, 1, 2, 3] rfl (RUN 4 [] [(1, .p 0 0), (2, .p 1 0), (3, .p 2 0)] [(32, [vi a.kind, vi a.id, vi a.cabin, vi a.from', vi a.size, vi a.tier]), (34, [vi 0, vi 0, vi 0, vi 0, vi 0, vi 0]), (34, [vi a.kind, vi 0, vi 0, vi 0, vi 0, vi 0])] ?_ rfl ?_))))
  · as_aux_lemma => kernel_rfl
  refine ENDOPS (NEXT (SEQ (REGION [0, 1, 2, 3] rfl (RUN 4 [] [(1, .p 0 0), (2, .p 1 0), (3, .p 2 0)] [(32, [vi a.kind, vi a.id, vi a.cabin, vi a.from', vi a.size, vi a.tier]), (34, [vi 0, vi 0, vi 0, vi 0, vi 0, vi 0]), (34, [vi a.kind, vi a.id, vi 0, vi 0, vi 0, vi 0])] ?_ rfl ?_))))
  · as_aux_lemma => kernel_rfl
  refine ENDOPS (NEXT (SEQ (REGION [0, 1, 2, 3] rfl (RUN 4 [] [(1, .p 0 0), (2, .p 1 0), (3, .p 2 0)] [(32, [vi a.kind, vi a.id, vi a.cabin, vi a.from', vi a.size, vi a.tier]), (34, [vi 0, vi 0, vi 0, vi 0, vi 0, vi 0]), (34, [vi a.kind, vi a.id, vi a.cabin, vi 0, vi 0, vi 0])] ?_ rfl ?_))))
  · as_aux_lemma => kernel_rfl
  refine ENDOPS (NEXT (SEQ (REGION [0, 1, 2, 3] rfl (RUN 4 [] [(1, .p 0 0), (2, .p 1 0), (3, .p 2 0)] [(32, [vi a.kind, vi a.id, vi a.cabin, vi a.from', vi a.size, vi a.tier]), (34, [vi 0, vi 0, vi 0, vi 0, vi 0, vi 0]), (34, [vi a.kind, vi a.id, vi a.cabin, vi a.from', vi 0, vi 0])] ?_ rfl ?_))))
  · as_aux_lemma => kernel_rfl
  refine ENDOPS (NEXT (SEQ (REGION [0, 1, 2, 3] rfl (RUN 4 [] [(1, .p 0 0), (2, .p 1 0), (3, .p 2 0)] [(32, [vi a.kind, vi a.id, vi a.cabin, vi a.from', vi a.size, vi a.tier]), (34, [vi 0, vi 0, vi 0, vi 0, vi 0, vi 0]), (34, [vi a.kind, vi a.id, vi a.cabin, vi a.from', vi a.size, vi 0])] ?_ rfl ?_))))
  · as_aux_lemma => kernel_rfl
  refine ENDOPS (NEXT (SEQ (REGION [0, 1, 2, 3] rfl (RUN 4 [] [(2, .p 1 0), (3, .p 2 0)] [(32, [vi a.kind, vi a.id, vi a.cabin, vi a.from', vi a.size, vi a.tier]), (34, [vi 0, vi 0, vi 0, vi 0, vi 0, vi 0]), (34, [vi a.kind, vi a.id, vi a.cabin, vi a.from', vi a.size, vi a.tier])] ?_ rfl ?_))))
  · as_aux_lemma => kernel_rfl
  refine ENDOPS (NEXT (SEQ (REGION [0, 1] rfl (RUN 2 [] [(2, .p 1 0)] [(32, [vi a.kind, vi a.id, vi a.cabin, vi a.from', vi a.size, vi a.tier]), (34, [vi a.kind, vi a.id, vi a.cabin, vi a.from', vi a.size, vi a.tier]), (34, [vi a.kind, vi a.id, vi a.cabin, vi a.from', vi a.size, vi a.tier])] ?_ rfl ?_))))
  · as_aux_lemma => kernel_rfl
  refine ENDOPS (NEXT (RET (FIN (.agg #[vi a.kind, vi a.id, vi a.cabin, vi a.from', vi a.size, vi a.tier]) ?_ () ?_ [] ?_)))
  · as_aux_lemma => kernel_rfl
  · rfl
  · rfl

theorem eqReq_c (W : World) (a : Req) (b : Req) : Spec Tryd.prog W [] 41 #[.agg #[vi a.kind, vi a.id, vi a.cabin, vi a.from', vi a.size, vi a.tier], .agg #[vi b.kind, vi b.id, vi b.cabin, vi b.from', vi b.size, vi b.tier]] (RV (.bool (eqReq a b))) := by
  refine ENTER0 (N := 35) (vs := [.agg #[vi a.kind, vi a.id, vi a.cabin, vi a.from', vi a.size, vi a.tier], .agg #[vi b.kind, vi b.id, vi b.cabin, vi b.from', vi b.size, vi b.tier]]) Tryd.func41 rfl rfl (Nat.le_of_ble_eq_true rfl) ?_
  refine SEQ (REGION [0, 1, 2] rfl (RUN 3 [] [(2, .p 0 0), (3, .p 1 0)] [(34, [vi a.kind, vi a.id, vi a.cabin, vi a.from', vi a.size, vi a.tier]), (34, [vi b.kind, vi b.id, vi b.cabin, vi b.from', vi b.size, vi b.tier])] ?_ rfl ?_))
  · as_aux_lemma => kernel_rfl
  refine ENDOPS (NEXT (SEQ (SEQ (REGION [0, 1, 2, 3, 4] rfl (RUN0 5 [] [(2, .p 0 0), (3, .p 1 0), (9, B (a.kind != b.kind))] ?_ rfl ?_)))))
  · as_aux_lemma => kernel_rfl
  refine ENDOPS (NEXT (IF (a.kind != b.kind) ?_ (fun bh1 => ?_) (fun bh1 => ?_)))
  · as_aux_lemma => kernel_rfl
  · -- a.kind != b.kind = true
    have h1 := bh1
    have h1 := bne_iff_ne.1 h1
    refine SEQ (REGION [0] rfl (RUN0 1 [] [(4, B false)] ?_ rfl ?_))
    · as_aux_lemma => kernel_rfl
    refine ENDOPS (NEXT (RET (PASS trivial (FIN (.bool false) ?_ () ?_ [] ?_))))
    · as_aux_lemma => kernel_rfl
    · simp [RV, eqReq, *]
    · rfl
  · -- a.kind != b.kind = false
    have h1 := bh1
    have h1 := bneF h1
    refine SKIP (NEXT (SEQ (SEQ (REGION [0, 1, 2, 3, 4] rfl (RUN0 5 [] [(2, .p 0 0), (3, .p 1 0), (14, B (a.id != b.id))] ?_ rfl ?_)))))
    · as_aux_lemma => kernel_rfl
    refine ENDOPS (NEXT (IF (a.id != b.id) ?_ (fun bh2 => ?_) (fun bh2 => ?_)))
    · as_aux_lemma => kernel_rfl
    · -- a.id != b.id = true
      have h2 := bh2
      have h2 := bne_iff_ne.1 h2
      refine SEQ (REGION [0] rfl (RUN0 1 [] [(4, B false)] ?_ rfl ?_))
      · as_aux_lemma => kernel_rfl
      refine ENDOPS (NEXT (RET (PASS trivial (FIN (.bool false) ?_ () ?_ [] ?_))))
      · as_aux_lemma => kernel_rfl
      · simp [RV, eqReq, *]
      · rfl
    · -- a.id != b.id = false
      have h2 := bh2
      have h2 := bneF h2
      refine SKIP (NEXT (SEQ (SEQ (REGION [0, 1, 2, 3, 4] rfl (RUN0 5 [] [(2, .p 0 0), (3, .p 1 0), (19, B (a.cabin != b.cabin))] ?_ rfl ?_)))))
      · as_aux_lemma => kernel_rfl
      refine ENDOPS (NEXT (IF (a.cabin != b.cabin) ?_ (fun bh3 => ?_) (fun bh3 => ?_)))
      · as_aux_lemma => kernel_rfl
      · -- a.cabin != b.cabin = true
        have h3 := bh3
        have h3 := bne_iff_ne.1 h3
        refine SEQ (REGION [0] rfl (RUN0 1 [] [(4, B false)] ?_ rfl ?_))
        · as_aux_lemma => kernel_rfl
        refine ENDOPS (NEXT (RET (PASS trivial (FIN (.bool false) ?_ () ?_ [] ?_))))
        · as_aux_lemma => kernel_rfl
        · simp [RV, eqReq, *]
        · rfl
      · -- a.cabin != b.cabin = false
        have h3 := bh3
        have h3 := bneF h3
        refine SKIP (NEXT (SEQ (SEQ (REGION [0, 1, 2, 3, 4] rfl (RUN0 5 [] [(2, .p 0 0), (3, .p 1 0), (24, B (a.from' != b.from'))] ?_ rfl ?_)))))
        · as_aux_lemma => kernel_rfl
        refine ENDOPS (NEXT (IF (a.from' != b.from') ?_ (fun bh4 => ?_) (fun bh4 => ?_)))
        · as_aux_lemma => kernel_rfl
        · -- a.from' != b.from' = true
          have h4 := bh4
          have h4 := bne_iff_ne.1 h4
          refine SEQ (REGION [0] rfl (RUN0 1 [] [(4, B false)] ?_ rfl ?_))
          · as_aux_lemma => kernel_rfl
          refine ENDOPS (NEXT (RET (PASS trivial (FIN (.bool false) ?_ () ?_ [] ?_))))
          · as_aux_lemma => kernel_rfl
          · simp [RV, eqReq, *]
          · rfl
        · -- a.from' != b.from' = false
          have h4 := bh4
          have h4 := bneF h4
          refine SKIP (NEXT (SEQ (SEQ (REGION [0, 1, 2, 3, 4] rfl (RUN0 5 [] [(2, .p 0 0), (3, .p 1 0), (29, B (a.size != b.size))] ?_ rfl ?_)))))
          · as_aux_lemma => kernel_rfl
          refine ENDOPS (NEXT (IF (a.size != b.size) ?_ (fun bh5 => ?_) (fun bh5 => ?_)))
          · as_aux_lemma => kernel_rfl
          · -- a.size != b.size = true
            have h5 := bh5
            have h5 := bne_iff_ne.1 h5
            refine SEQ (REGION [0] rfl (RUN0 1 [] [(4, B false)] ?_ rfl ?_))
            · as_aux_lemma => kernel_rfl
            refine ENDOPS (NEXT (RET (PASS trivial (FIN (.bool false) ?_ () ?_ [] ?_))))
            · as_aux_lemma => kernel_rfl
            · simp [RV, eqReq, *]
            · rfl
          · -- a.size != b.size = false
            have h5 := bh5
            have h5 := bneF h5
            refine SKIP (NEXT (SEQ (SEQ (REGION [0, 1, 2, 3, 4] rfl (RUN0 5 [] [(34, B (a.tier != b.tier))] ?_ rfl ?_)))))
            · as_aux_lemma => kernel_rfl
            refine ENDOPS (NEXT (IF (a.tier != b.tier) ?_ (fun bh6 => ?_) (fun bh6 => ?_)))
            · as_aux_lemma => kernel_rfl
            · -- a.tier != b.tier = true
              have h6 := bh6
              have h6 := bne_iff_ne.1 h6
              refine SEQ (REGION [0] rfl (RUN0 1 [] [(4, B false)] ?_ rfl ?_))
              · as_aux_lemma => kernel_rfl
              refine ENDOPS (NEXT (RET (PASS trivial (FIN (.bool false) ?_ () ?_ [] ?_))))
              · as_aux_lemma => kernel_rfl
              · simp [RV, eqReq, *]
              · rfl
            · -- a.tier != b.tier = false
              have h6 := bh6
              have h6 := bneF h6
              refine SKIP (NEXT (SEQ (REGION [0] rfl (RUN0 1 [] [(4, B true)] ?_ rfl ?_))))
              · as_aux_lemma => kernel_rfl
              refine ENDOPS (NEXT (RET (FIN (.bool true) ?_ () ?_ [] ?_)))
              · as_aux_lemma => kernel_rfl
              · simp [RV, eqReq, *]
              · rfl

theorem szIntS_c (W : World) (a : List Int) (a_a : Option Addr) (a_c : Nat) (ha : Rd intL W a_a a) (left : Int) : Spec Tryd.prog W [] 31 #[.slice a_a a.length a_c, vi left] (RV (vi (szInts a left))) := by
  refine ENTER0 (N := 12) (vs := [.slice a_a a.length a_c, vi left]) Tryd.func31 rfl rfl (Nat.le_of_ble_eq_true rfl) ?_
  have ha_len := ha.len
  refine SEQ (REGION [0] rfl (RUN0 1 [] [(0, .v (.slice a_a a.length a_c)), (1, I left)] ?_ rfl ?_))
  · as_aux_lemma => kernel_rfl
  refine ENDOPS (NEXT (SEQ (REGION [0, 1, 2, 3, 4] rfl (RUN0 5 [] [(1, I (wr (left - (a.length : Int))))] ?_ rfl ?_))))
  · as_aux_lemma => kernel_rfl
  refine ENDOPS (NEXT (SEQ (SEQ (REGION [0, 1] rfl (RUN0 2 [] [(1, I (wr (left - (a.length : Int)))), (10, B (decide ((wr (left - (a.length : Int))) < 0)))] ?_ rfl ?_)))))
  · as_aux_lemma => kernel_rfl
  refine ENDOPS (NEXT (IF (decide ((wr (left - (a.length : Int))) < 0)) ?_ (fun bh1 => ?_) (fun bh1 => ?_)))
  · as_aux_lemma => kernel_rfl
  · -- decide ((wr (left - (a.length : Int))) < 0) = true
    have h1 := bh1
    have h1 := of_decide_eq_true h1
    refine SEQ (REGION [0] rfl (RUN0 1 [] [(4, I (-1))] ?_ rfl ?_))
    · as_aux_lemma => kernel_rfl
    refine ENDOPS (NEXT (RET (PASS trivial (FIN (vi (-1)) ?_ () ?_ [] ?_))))
    · as_aux_lemma => kernel_rfl
    · simp [RV, szInts, *]
    · rfl
  · -- decide ((wr (left - (a.length : Int))) < 0) = false
    have h1 := bh1
    have h1 := of_decide_eq_false h1
    refine SKIP (NEXT (SEQ (REGION [0, 1] rfl (RUN0 2 [] [(4, I (wr (left - (a.length : Int))))] ?_ rfl ?_))))
    · as_aux_lemma => kernel_rfl
    refine ENDOPS (NEXT (RET (FIN (vi (wr (left - (a.length : Int)))) ?_ () ?_ [] ?_)))
    · as_aux_lemma => kernel_rfl
    · simp [RV, szInts, *]
    · rfl

theorem toIntS_c (W : World) (a : List Int) (a_a : Option Addr) (a_c : Nat) (ha : Rd intL W a_a a) (hb : a.length ≤ 1048576) : Spec Tryd.prog W [] 33 #[.slice a_a a.length a_c] (⟨HH, fun p => .slice p.1 a.length p.2, fun p => [slA 3 intL (.slice p.1 a.length p.2) a]⟩) := by
  refine ENTER0 (N := 22) (vs := [.slice a_a a.length a_c]) Tryd.func33 rfl rfl (Nat.le_of_ble_eq_true rfl) ?_
  have ha_len := ha.len
  refine SEQ (REGION [0] rfl (RUN0 1 [] [(0, .v (.slice a_a a.length a_c))] ?_ rfl ?_))
  · as_aux_lemma => kernel_rfl
  refine ENDOPS (NEXT (SEQ (REGION [0, 1, 2, 3] rfl (RUN0 2 [2, 3] [(0, .v (.slice a_a a.length a_c)), (6, I (a.length : Int))] ?_ rfl ?_))))
  · as_aux_lemma => kernel_rfl
  refine OPC (MAKE 22 (.tmp 6) (.tmp 6) 7 22 ?_ (Nat.le_of_ble_eq_true rfl) a.length ?_ ?_ 3 ?_ (fun z => [.int .i64 z]) (fun z => ⟨rfl, by simp [isCell]⟩) 0 (vi 0) 8 rfl ?_ rfl (by omega) (by simp only [maxLen]; omega) (fun a1 ha2 => ?_))
  · as_aux_lemma => kernel_rfl
  · as_aux_lemma => kernel_rfl
  · as_aux_lemma => kernel_rfl
  · as_aux_lemma => kernel_rfl
  · as_aux_lemma => kernel_rfl
  refine RUN0 1 [] [(0, .v (.slice a_a a.length a_c)), (3, .v (.slice a1 a.length a.length))] ?_ rfl ?_
  · as_aux_lemma => kernel_rfl
  refine ENDOPS (NEXT (SEQ (SEQ (REGION [0] rfl (RUN0 1 [] [(0, .v (.slice a_a a.length a_c)), (3, .v (.slice a1 a.length a.length)), (4, I 0)] ?_ rfl ?_)))))
  · as_aux_lemma => kernel_rfl
  refine ENDOPS (NEXT (BLOCK (LOOP (ι := Nat × (List Int) × (List Int)) (fun j => [(0, .v (.slice a_a a.length a_c)), (3, .v (.slice a1 a.length a.length)), (4, I (j.1 : Int))]) (fun j => []) (fun j => [slA 3 intL (.slice a1 a.length a.length) j.2.2]) (fun j => j.1 + j.2.1.length = a.length ∧ a.drop j.1 = j.2.1 ∧ j.2.2 = a.take j.1 ++ List.replicate j.2.1.length 0) (fun j => j.2.1.length) (0, a, List.replicate a.length 0) [0, 3, 4] ⟨by simp, rfl, by simp⟩ ?_ rfl rfl ?_)))
  · as_aux_lemma => kernel_rfl
  rintro ⟨k, ys, out⟩ ⟨hk, hd, hv0⟩
  dsimp only at hk hd hv0
  refine SEQ (SEQ (REGION [0, 1, 2, 3] rfl (RUN0 4 [] [(0, .v (.slice a_a a.length a_c)), (3, .v (.slice a1 a.length a.length)), (4, I (k : Int)), (11, B (decide ((k : Int) < (a.length : Int))))] ?_ rfl ?_)))
  · as_aux_lemma => kernel_rfl
  refine ENDOPS (NEXT (IF (decide ((k : Int) < (a.length : Int))) ?_ (fun bh3 => ?_) (fun bh3 => ?_)))
  · as_aux_lemma => kernel_rfl
  · -- decide ((k : Int) < (a.length : Int)) = true
    have h3 := bh3
    have h3 := of_decide_eq_true h3
    obtain ⟨y4, ys5, rfl, hx_y4, hd_y4, hl_y4⟩ := drop_cons hd hk (by omega)
    refine SKIP (NEXT (SEQ (BLOCK (REGION [0, 1, 2, 3, 4, 5, 6, 7] rfl (RUN0 4 [4, 5, 6, 7] [(0, .v (.slice a_a a.length a_c)), (3, .v (.slice a1 a.length a.length)), (4, I (k : Int)), (14, .v (.slice a1 a.length a.length)), (15, I (k : Int)), (16, .v (.slice a_a a.length a_c)), (17, I (k : Int))] ?_ rfl ?_)))))
    · as_aux_lemma => kernel_rfl
    refine OPC (INDEX 22 (.tmp 16) (.tmp 17) 18 0 ?_ (Nat.le_of_ble_eq_true rfl) a_a a.length a_c .i64 (k : Int) 3 1 ?_ ?_ ?_ ?_ (Rd.some ha (by omega)) (by omega) (by omega) ?_)
    · as_aux_lemma => kernel_rfl
    · as_aux_lemma => kernel_rfl
    · as_aux_lemma => kernel_rfl
    · as_aux_lemma => kernel_rfl
    · as_aux_lemma => kernel_rfl
    refine OPC (LOADE 3 (.tmp 18) 19 3 ?_ (Nat.le_of_ble_eq_true rfl) a_a (k * 1) 0 [vi y4] (vi y4) ?_ (fun w hw => (ha.fr hw.fr).flat hx_y4) ?_ ?_)
    · as_aux_lemma => kernel_rfl
    · as_aux_lemma => kernel_rfl
    · as_aux_lemma => kernel_rfl
    refine FACT (a.length = out.length) (fun w hw => (SlO.lenE (hw.own 0 rfl)).1) (fun hln6 => ?_)
    obtain ⟨x7, hx8⟩ : ∃ y, out[k]? = some y := ⟨_, List.getElem?_eq_getElem (by omega)⟩
    refine OPC (INDEX 22 (.tmp 14) (.tmp 15) 20 0 ?_ (Nat.le_of_ble_eq_true rfl) a1 a.length a.length .i64 (k : Int) 3 1 ?_ ?_ ?_ ?_ ha2 (by omega) (by omega) ?_)
    · as_aux_lemma => kernel_rfl
    · as_aux_lemma => kernel_rfl
    · as_aux_lemma => kernel_rfl
    · as_aux_lemma => kernel_rfl
    · as_aux_lemma => kernel_rfl
    refine OPC (STOREF 3 (.tmp 20) (.tmp 19) 0 ?_ 0 _ 3 a1 a.length a.length k 0 out rfl x7 y4 hx8 (vi y4) ?_ ?_ ?_ ?_)
    · as_aux_lemma => kernel_rfl
    · as_aux_lemma => kernel_rfl
    · as_aux_lemma => kernel_rfl
    · as_aux_lemma => kernel_rfl
    refine ENDOPS (OUTN (NEXT (REGION [0, 1, 2] rfl (RUN0 2 [2] [(0, .v (.slice a_a a.length a_c)), (3, .v (.slice a1 a.length a.length)), (13, I (wr ((k : Int) + 1)))] ?_ rfl ?_))))
    · as_aux_lemma => kernel_rfl
    refine CAST (d := 13) (vi (wr ((k : Int) + 1))) (vi ((k + 1 : Nat) : Int)) ?_ (vi_cast (by omega) (by omega)) ?_
    · as_aux_lemma => kernel_rfl
    refine RUN0 1 [] [(0, .v (.slice a_a a.length a_c)), (3, .v (.slice a1 a.length a.length)), (4, I ((k + 1 : Nat) : Int))] ?_ rfl ?_
    · as_aux_lemma => kernel_rfl
    refine ENDOPS (BACK (k + 1, ys5, out.set k y4) [0, 3, 4] 0 [0] _ ⟨hl_y4, hd_y4, by rw [hv0]; exact set_next hk hx_y4⟩ (by simp) ?_ rfl rfl rfl)
    · as_aux_lemma => kernel_rfl
  · -- decide ((k : Int) < (a.length : Int)) = false
    have h3 := bh3
    have h3 := of_decide_eq_false h3
    obtain rfl := drop_nil hk (by omega)
    refine EXIT (PASS trivial (PASS trivial (OUT (NEXT (SEQ (REGION [0, 1] rfl (RUN0 2 [] [(2, .v (.slice a1 a.length a.length))] ?_ rfl ?_)))))))
    · as_aux_lemma => kernel_rfl
    refine ENDOPS (NEXT (RET (FIN (.slice a1 a.length a.length) ?_ (a1, a.length) ?_ [0] ?_)))
    · as_aux_lemma => kernel_rfl
    · rfl
    · (rw [show out = a by rw [hv0]; simp [show k = a.length by simpa using hk]]; rfl)

theorem eqIntS_c (W : World) (a : List Int) (a_a : Option Addr) (a_c : Nat) (ha : Rd intL W a_a a) (b : List Int) (b_a : Option Addr) (b_c : Nat) (hb : Rd intL W b_a b) : Spec Tryd.prog W [] 36 #[.slice a_a a.length a_c, .slice b_a b.length b_c] (RV (.bool (eqInts a b))) := by
  refine ENTER0 (N := 26) (vs := [.slice a_a a.length a_c, .slice b_a b.length b_c]) Tryd.func36 rfl rfl (Nat.le_of_ble_eq_true rfl) ?_
  have ha_len := ha.len
  have hb_len := hb.len
  refine SEQ (REGION [0] rfl (RUN0 1 [] [(0, .v (.slice a_a a.length a_c)), (1, .v (.slice b_a b.length b_c))] ?_ rfl ?_))
  · as_aux_lemma => kernel_rfl
  refine ENDOPS (NEXT (SEQ (SEQ (REGION [0, 1, 2, 3, 4] rfl (RUN0 5 [] [(0, .v (.slice a_a a.length a_c)), (1, .v (.slice b_a b.length b_c)), (10, B ((a.length : Int) != (b.length : Int)))] ?_ rfl ?_)))))
  · as_aux_lemma => kernel_rfl
  refine ENDOPS (NEXT (IF ((a.length : Int) != (b.length : Int)) ?_ (fun bh1 => ?_) (fun bh1 => ?_)))
  · as_aux_lemma => kernel_rfl
  · -- (a.length : Int) != (b.length : Int) = true
    have h1 := bh1
    have h1 := bne_iff_ne.1 h1
    refine SEQ (REGION [0] rfl (RUN0 1 [] [(4, B false)] ?_ rfl ?_))
    · as_aux_lemma => kernel_rfl
    refine ENDOPS (NEXT (RET (PASS trivial (FIN (.bool false) ?_ () ?_ [] ?_))))
    · as_aux_lemma => kernel_rfl
    · simp [RV, eqInts_ne (a := a) (b := b) (by omega)]
    · rfl
  · -- (a.length : Int) != (b.length : Int) = false
    have h1 := bh1
    have h1 := bneF h1
    refine SKIP (NEXT (SEQ (SEQ (REGION [0] rfl (RUN0 1 [] [(0, .v (.slice a_a a.length a_c)), (1, .v (.slice b_a b.length b_c)), (5, I 0)] ?_ rfl ?_)))))
    · as_aux_lemma => kernel_rfl
    refine ENDOPS (NEXT (BLOCK (LOOP (ι := Nat × (List Int)) (fun j => [(0, .v (.slice a_a a.length a_c)), (1, .v (.slice b_a b.length b_c)), (5, I (j.1 : Int))]) (fun j => []) (fun j => []) (fun j => j.1 + j.2.length = a.length ∧ a.drop j.1 = j.2 ∧ eqInts a b = eqInts j.2 (b.drop j.1)) (fun j => j.2.length) (0, a) [0, 1, 5] ⟨by simp, rfl, rfl⟩ ?_ rfl rfl ?_)))
    · as_aux_lemma => kernel_rfl
    rintro ⟨k, ys⟩ ⟨hk, hd, hv0⟩
    dsimp only at hk hd hv0
    refine SEQ (SEQ (REGION [0, 1, 2, 3] rfl (RUN0 4 [] [(0, .v (.slice a_a a.length a_c)), (1, .v (.slice b_a b.length b_c)), (5, I (k : Int)), (14, B (decide ((k : Int) < (a.length : Int))))] ?_ rfl ?_)))
    · as_aux_lemma => kernel_rfl
    refine ENDOPS (NEXT (IF (decide ((k : Int) < (a.length : Int))) ?_ (fun bh2 => ?_) (fun bh2 => ?_)))
    · as_aux_lemma => kernel_rfl
    · -- decide ((k : Int) < (a.length : Int)) = true
      have h2 := bh2
      have h2 := of_decide_eq_true h2
      obtain ⟨y3, ys4, rfl, hx_y3, hd_y3, hl_y3⟩ := drop_cons hd hk (by omega)
      refine SKIP (NEXT (SEQ (BLOCK (SEQ (REGIONQ ?_ ?_ ?_)))))
      · as_aux_lemma => kernel_rfl
      · as_aux_lemma => kernel_rfl
      refine QRUN 2 0 2 [(0, .v (.slice a_a a.length a_c)), (1, .v (.slice b_a b.length b_c)), (5, I (k : Int)), (17, .v (.slice a_a a.length a_c)), (18, I (k : Int))] ?_ rfl ?_
      · as_aux_lemma => kernel_rfl
      refine QINDEX 22 (.tmp 17) (.tmp 18) 19 0 ?_ (Nat.le_of_ble_eq_true rfl) a_a a.length a_c .i64 (k : Int) 3 1 ?_ ?_ ?_ ?_ (Rd.some ha (by omega)) (by omega) (by omega) ?_
      · as_aux_lemma => kernel_rfl
      · as_aux_lemma => kernel_rfl
      · as_aux_lemma => kernel_rfl
      · as_aux_lemma => kernel_rfl
      · as_aux_lemma => kernel_rfl
      refine QLOADE 3 (.tmp 19) 20 3 ?_ (Nat.le_of_ble_eq_true rfl) a_a (k * 1) 0 [vi y3] (vi y3) ?_ (fun w hw => (ha.fr hw.fr).flat hx_y3) ?_ ?_
      · as_aux_lemma => kernel_rfl
      · as_aux_lemma => kernel_rfl
      · as_aux_lemma => kernel_rfl
      refine QRUN 2 4 6 [(0, .v (.slice a_a a.length a_c)), (1, .v (.slice b_a b.length b_c)), (5, I (k : Int)), (20, I y3), (21, .v (.slice b_a b.length b_c)), (22, I (k : Int))] ?_ rfl ?_
      · as_aux_lemma => kernel_rfl
      obtain ⟨x5, hx6⟩ : ∃ y, b[k]? = some y := ⟨_, List.getElem?_eq_getElem (by omega)⟩
      refine QINDEX 22 (.tmp 21) (.tmp 22) 23 0 ?_ (Nat.le_of_ble_eq_true rfl) b_a b.length b_c .i64 (k : Int) 3 1 ?_ ?_ ?_ ?_ (Rd.some hb (by omega)) (by omega) (by omega) ?_
      · as_aux_lemma => kernel_rfl
      · as_aux_lemma => kernel_rfl
      · as_aux_lemma => kernel_rfl
      · as_aux_lemma => kernel_rfl
      · as_aux_lemma => kernel_rfl
      refine QLOADE 3 (.tmp 23) 24 3 ?_ (Nat.le_of_ble_eq_true rfl) b_a (k * 1) 0 [vi x5] (vi x5) ?_ (fun w hw => (hb.fr hw.fr).flat hx6) ?_ ?_
      · as_aux_lemma => kernel_rfl
      · as_aux_lemma => kernel_rfl
      · as_aux_lemma => kernel_rfl
      refine QRUN 1 8 9 [(0, .v (.slice a_a a.length a_c)), (1, .v (.slice b_a b.length b_c)), (5, I (k : Int)), (25, B (y3 != x5))] ?_ rfl ?_
      · as_aux_lemma => kernel_rfl
      refine QEND rfl (NEXT (IF (y3 != x5) ?_ (fun bh7 => ?_) (fun bh7 => ?_)))
      · as_aux_lemma => kernel_rfl
      · -- y3 != x5 = true
        have h7 := bh7
        have h7 := bne_iff_ne.1 h7
        refine SEQ (REGION [0] rfl (RUN0 1 [] [(4, B false)] ?_ rfl ?_))
        · as_aux_lemma => kernel_rfl
        refine ENDOPS (NEXT (RET (OUTR (PASS trivial (PASS trivial (OUTR (PASS trivial (FIN (.bool false) ?_ () ?_ [] ?_))))))))
        · as_aux_lemma => kernel_rfl
        · simp [RV, hv0, drop_get ‹b[k]? = some _›, eqInts, *]
        · rfl
      · -- y3 != x5 = false
        have h7 := bh7
        have h7 := bneF h7
        refine SKIP (OUTN (NEXT (REGION [0, 1, 2] rfl (RUN0 2 [2] [(0, .v (.slice a_a a.length a_c)), (1, .v (.slice b_a b.length b_c)), (16, I (wr ((k : Int) + 1)))] ?_ rfl ?_))))
        · as_aux_lemma => kernel_rfl
        refine CAST (d := 16) (vi (wr ((k : Int) + 1))) (vi ((k + 1 : Nat) : Int)) ?_ (vi_cast (by omega) (by omega)) ?_
        · as_aux_lemma => kernel_rfl
        refine RUN0 1 [] [(0, .v (.slice a_a a.length a_c)), (1, .v (.slice b_a b.length b_c)), (5, I ((k + 1 : Nat) : Int))] ?_ rfl ?_
        · as_aux_lemma => kernel_rfl
        refine ENDOPS (BACK (k + 1, ys4) [0, 1, 5] 0 [] _ ⟨hl_y3, hd_y3, hv0.trans (by simp [eqInts, drop_get ‹b[k]? = some _›, *])⟩ (by simp) ?_ rfl rfl rfl)
        · as_aux_lemma => kernel_rfl
    · -- decide ((k : Int) < (a.length : Int)) = false
      have h2 := bh2
      have h2 := of_decide_eq_false h2
      obtain rfl := drop_nil hk (by omega)
      refine EXIT (PASS trivial (PASS trivial (OUT (NEXT (SEQ (REGION [0] rfl (RUN0 1 [] [(4, B true)] ?_ rfl ?_)))))))
      · as_aux_lemma => kernel_rfl
      refine ENDOPS (NEXT (RET (FIN (.bool true) ?_ () ?_ [] ?_)))
      · as_aux_lemma => kernel_rfl
      · simp [RV, hv0, eqInts, List.drop_eq_nil_of_le (show b.length ≤ k by simp at hk; omega)]
      · rfl

theorem szAct_c (W : World) (a : Act) (a_keep_a : Option Addr) (a_keep_c : Nat) (ha_keep : Rd intL W a_keep_a a.keep) (left : Int) : Spec Tryd.prog W [] 21 #[.agg #[vi a.kind, vi a.req.kind, vi a.req.id, vi a.req.cabin, vi a.req.from', vi a.req.size, vi a.req.tier, vi a.n, .slice a_keep_a a.keep.length a_keep_c], vi left] (RV (vi (szAct a left))) := by
  refine ENTER0 (N := 12) (vs := [.agg #[vi a.kind, vi a.req.kind, vi a.req.id, vi a.req.cabin, vi a.req.from', vi a.req.size, vi a.req.tier, vi a.n, .slice a_keep_a a.keep.length a_keep_c], vi left]) Tryd.func21 rfl rfl (Nat.le_of_ble_eq_true rfl) ?_
  have ha_keep_len := ha_keep.len
  refine SEQ (REGION [0, 1] rfl (RUN 2 [] [(1, I left), (2, .p 0 0)] [(45, [vi a.kind, vi a.req.kind, vi a.req.id, vi a.req.cabin, vi a.req.from', vi a.req.size, vi a.req.tier, vi a.n, .slice a_keep_a a.keep.length a_keep_c])] ?_ rfl ?_))
  · as_aux_lemma => kernel_rfl
  refine ENDOPS (NEXT (SEQ (REGION [0, 1, 2, 3, 4] rfl (RUN0 3 [3, 4] [(6, .v (.slice a_keep_a a.keep.length a_keep_c)), (7, I left)] ?_ rfl ?_))))
  · as_aux_lemma => kernel_rfl
  refine OPC (CALL 31 #[.slice a_keep_a a.keep.length a_keep_c, vi left] (some 8) ?_ [] [] _ rfl (RV (vi (szInts a.keep left))) (fun w hw => szIntS_c w a.keep a_keep_a a_keep_c (ha_keep.fr hw.fr) left) (by rintro _ ⟨⟩; exact Nat.le_of_ble_eq_true rfl) ?_)
  · as_aux_lemma => kernel_rfl
  rintro ⟨⟩
  refine RUN0 1 [] [(1, I (szInts a.keep left))] ?_ rfl ?_
  · as_aux_lemma => kernel_rfl
  refine ENDOPS (NEXT (SEQ (SEQ (REGION [0, 1] rfl (RUN0 2 [] [(1, I (szInts a.keep left)), (10, B (decide ((szInts a.keep left) < 0)))] ?_ rfl ?_)))))
  · as_aux_lemma => kernel_rfl
  refine ENDOPS (NEXT (IF (decide ((szInts a.keep left) < 0)) ?_ (fun bh1 => ?_) (fun bh1 => ?_)))
  · as_aux_lemma => kernel_rfl
  · -- decide ((szInts a.keep left) < 0) = true
    have h1 := bh1
    have h1 := of_decide_eq_true h1
    refine SEQ (REGION [0] rfl (RUN0 1 [] [(4, I (-1))] ?_ rfl ?_))
    · as_aux_lemma => kernel_rfl
    refine ENDOPS (NEXT (RET (PASS trivial (FIN (vi (-1)) ?_ () ?_ [] ?_))))
    · as_aux_lemma => kernel_rfl
    · simp [RV, szAct, *]
    · rfl
  · -- decide ((szInts a.keep left) < 0) = false
    have h1 := bh1
    have h1 := of_decide_eq_false h1
    refine SKIP (NEXT (SEQ (REGION [0, 1] rfl (RUN0 2 [] [(4, I (szInts a.keep left))] ?_ rfl ?_))))
    · as_aux_lemma => kernel_rfl
    refine ENDOPS (NEXT (RET (FIN (vi (szInts a.keep left)) ?_ () ?_ [] ?_)))
    · as_aux_lemma => kernel_rfl
    · simp [RV, szAct, *]
    · rfl

theorem toAct_c (W : World) (a : Act) (a_keep_a : Option Addr) (a_keep_c : Nat) (ha_keep : Rd intL W a_keep_a a.keep) (hb : a.keep.length ≤ 1048576) : Spec Tryd.prog W [] 23 #[.agg #[vi a.kind, vi a.req.kind, vi a.req.id, vi a.req.cabin, vi a.req.from', vi a.req.size, vi a.req.tier, vi a.n, .slice a_keep_a a.keep.length a_keep_c]] (⟨HH, fun p => .agg #[vi a.kind, vi a.req.kind, vi a.req.id, vi a.req.cabin, vi a.req.from', vi a.req.size, vi a.req.tier, vi a.n, .slice p.1 a.keep.length p.2], fun p => [slA 3 intL (.slice p.1 a.keep.length p.2) a.keep]⟩) := by
  refine ENTER0 (N := 19) (vs := [.agg #[vi a.kind, vi a.req.kind, vi a.req.id, vi a.req.cabin, vi a.req.from', vi a.req.size, vi a.req.tier, vi a.n, .slice a_keep_a a.keep.length a_keep_c]]) Tryd.func23 rfl rfl (Nat.le_of_ble_eq_true rfl) ?_
  have ha_keep_len := ha_keep.len
  refine SEQ (REGION [0, 1] rfl (RUN 2 [] [(1, .p 0 0), (2, .p 1 0)] [(45, [vi a.kind, vi a.req.kind, vi a.req.id, vi a.req.cabin, vi a.req.from', vi a.req.size, vi a.req.tier, vi a.n, .slice a_keep_a a.keep.length a_keep_c]), (49, [vi 0, vi 0, vi 0, vi 0, vi 0, vi 0, vi 0, vi 0, .slice none 0 0])] ?_ rfl ?_))
  · as_aux_lemma => kernel_rfl
  refine ENDOPS (NEXT (SEQ (REGION [0] rfl (RUN 1 [] [(1, .p 0 0), (2, .p 1 0), (3, .p 2 0)] [(45, [vi a.kind, vi a.req.kind, vi a.req.id, vi a.req.cabin, vi a.req.from', vi a.req.size, vi a.req.tier, vi a.n, .slice a_keep_a a.keep.length a_keep_c]), (49, [vi 0, vi 0, vi 0, vi 0, vi 0, vi 0, vi 0, vi 0, .slice none 0 0]), (49, [vi 0, vi 0, vi 0, vi 0, vi 0, vi 0, vi 0, vi 0, .slice none 0 0])] ?_ rfl ?_))))
  · as_aux_lemma => kernel_rfl
  refine ENDOPS (NEXT (SEQ (REGION [0, 1, 2, 3] rfl (RUN 4 [] [(1, .p 0 0), (2, .p 1 0), (3, .p 2 0)] [(45, [vi a.kind, vi a.req.kind, vi a.req.id, vi a.req.cabin, vi a.req.from', vi a.req.size, vi a.req.tier, vi a.n, .slice a_keep_a a.keep.length a_keep_c]), (49, [vi 0, vi 0, vi 0, vi 0, vi 0, vi 0, vi 0, vi 0, .slice none 0 0]), (49, [vi a.kind, vi 0, vi 0, vi 0, vi 0, vi 0, vi 0, vi 0, .slice none 0 0])] ?_ rfl ?_))))
  · as_aux_lemma => kernel_rfl
  refine ENDOPS (NEXT (SEQ (REGION [0, 1, 2, 3, 4] rfl (RUN0 2 [2, 3, 4] [(1, .p 0 0), (2, .p 1 0), (3, .p 2 0), (8, .v (.agg #[vi a.req.kind, vi a.req.id, vi a.req.cabin, vi a.req.from', vi a.req.size, vi a.req.tier]))] ?_ rfl ?_))))
  · as_aux_lemma => kernel_rfl
  refine OPC (CALL 14 #[.agg #[vi a.req.kind, vi a.req.id, vi a.req.cabin, vi a.req.from', vi a.req.size, vi a.req.tier]] (some 9) ?_ [] [] _ rfl (RV (.agg #[vi a.req.kind, vi a.req.id, vi a.req.cabin, vi a.req.from', vi a.req.size, vi a.req.tier])) (fun w hw => toReq_c w a.req) (by rintro _ ⟨⟩; exact Nat.le_of_ble_eq_true rfl) ?_)
  · as_aux_lemma => kernel_rfl
  rintro ⟨⟩
  refine RUN 2 [] [(1, .p 0 0), (2, .p 1 0), (3, .p 2 0)] [(45, [vi a.kind, vi a.req.kind, vi a.req.id, vi a.req.cabin, vi a.req.from', vi a.req.size, vi a.req.tier, vi a.n, .slice a_keep_a a.keep.length a_keep_c]), (49, [vi 0, vi 0, vi 0, vi 0, vi 0, vi 0, vi 0, vi 0, .slice none 0 0]), (49, [vi a.kind, vi a.req.kind, vi a.req.id, vi a.req.cabin, vi a.req.from', vi a.req.size, vi a.req.tier, vi 0, .slice none 0 0])] ?_ rfl ?_
  · as_aux_lemma => kernel_rfl
  refine ENDOPS (NEXT (SEQ (REGION [0, 1, 2, 3] rfl (RUN 4 [] [(1, .p 0 0), (2, .p 1 0), (3, .p 2 0)] [(45, [vi a.kind, vi a.req.kind, vi a.req.id, vi a.req.cabin, vi a.req.from', vi a.req.size, vi a.req.tier, vi a.n, .slice a_keep_a a.keep.length a_keep_c]), (49, [vi 0, vi 0, vi 0, vi 0, vi 0, vi 0, vi 0, vi 0, .slice none 0 0]), (49, [vi a.kind, vi a.req.kind, vi a.req.id, vi a.req.cabin, vi a.req.from', vi a.req.size, vi a.req.tier, vi a.n, .slice none 0 0])] ?_ rfl ?_))))
  · as_aux_lemma => kernel_rfl
  refine ENDOPS (NEXT (SEQ (REGION [0, 1, 2, 3, 4] rfl (RUN0 2 [2, 3, 4] [(2, .p 1 0), (3, .p 2 0), (15, .v (.slice a_keep_a a.keep.length a_keep_c))] ?_ rfl ?_))))
  · as_aux_lemma => kernel_rfl
  refine OPC (CALL 33 #[.slice a_keep_a a.keep.length a_keep_c] (some 16) ?_ [] [] _ rfl (⟨HH, fun p => .slice p.1 a.keep.length p.2, fun p => [slA 3 intL (.slice p.1 a.keep.length p.2) a.keep]⟩) (fun w hw => toIntS_c w a.keep a_keep_a a_keep_c (ha_keep.fr hw.fr) (by first | omega | (simp only [List.length_append, List.length_cons, List.length_nil, List.length_take, List.length_drop] at *; omega))) (by rintro _ ⟨⟩; exact Nat.le_of_ble_eq_true rfl) ?_)
  · as_aux_lemma => kernel_rfl
  rintro ⟨a1, c2⟩
  refine RUN 2 [] [(2, .p 1 0), (3, .p 2 0)] [(45, [vi a.kind, vi a.req.kind, vi a.req.id, vi a.req.cabin, vi a.req.from', vi a.req.size, vi a.req.tier, vi a.n, .slice a_keep_a a.keep.length a_keep_c]), (49, [vi 0, vi 0, vi 0, vi 0, vi 0, vi 0, vi 0, vi 0, .slice none 0 0]), (49, [vi a.kind, vi a.req.kind, vi a.req.id, vi a.req.cabin, vi a.req.from', vi a.req.size, vi a.req.tier, vi a.n, .slice a1 a.keep.length c2])] ?_ rfl ?_
  · as_aux_lemma => kernel_rfl
  refine ENDOPS (NEXT (SEQ (REGION [0, 1] rfl (RUN 2 [] [(2, .p 1 0)] [(45, [vi a.kind, vi a.req.kind, vi a.req.id, vi a.req.cabin, vi a.req.from', vi a.req.size, vi a.req.tier, vi a.n, .slice a_keep_a a.keep.length a_keep_c]), (49, [vi a.kind, vi a.req.kind, vi a.req.id, vi a.req.cabin, vi a.req.from', vi a.req.size, vi a.req.tier, vi a.n, .slice a1 a.keep.length c2]), (49, [vi a.kind, vi a.req.kind, vi a.req.id, vi a.req.cabin, vi a.req.from', vi a.req.size, vi a.req.tier, vi a.n, .slice a1 a.keep.length c2])] ?_ rfl ?_))))
  · as_aux_lemma => kernel_rfl
  refine ENDOPS (NEXT (RET (FIN (.agg #[vi a.kind, vi a.req.kind, vi a.req.id, vi a.req.cabin, vi a.req.from', vi a.req.size, vi a.req.tier, vi a.n, .slice a1 a.keep.length c2]) ?_ (a1, c2) ?_ [0] ?_)))
  · as_aux_lemma => kernel_rfl
  · rfl
  · rfl

theorem eqAct_c (W : World) (a : Act) (a_keep_a : Option Addr) (a_keep_c : Nat) (ha_keep : Rd intL W a_keep_a a.keep) (b : Act) (b_keep_a : Option Addr) (b_keep_c : Nat) (hb_keep : Rd intL W b_keep_a b.keep) : Spec Tryd.prog W [] 25 #[.agg #[vi a.kind, vi a.req.kind, vi a.req.id, vi a.req.cabin, vi a.req.from', vi a.req.size, vi a.req.tier, vi a.n, .slice a_keep_a a.keep.length a_keep_c], .agg #[vi b.kind, vi b.req.kind, vi b.req.id, vi b.req.cabin, vi b.req.from', vi b.req.size, vi b.req.tier, vi b.n, .slice b_keep_a b.keep.length b_keep_c]] (RV (.bool (eqAct a b))) := by
  refine ENTER0 (N := 27) (vs := [.agg #[vi a.kind, vi a.req.kind, vi a.req.id, vi a.req.cabin, vi a.req.from', vi a.req.size, vi a.req.tier, vi a.n, .slice a_keep_a a.keep.length a_keep_c], .agg #[vi b.kind, vi b.req.kind, vi b.req.id, vi b.req.cabin, vi b.req.from', vi b.req.size, vi b.req.tier, vi b.n, .slice b_keep_a b.keep.length b_keep_c]]) Tryd.func25 rfl rfl (Nat.le_of_ble_eq_true rfl) ?_
  have ha_keep_len := ha_keep.len
  have hb_keep_len := hb_keep.len
  refine SEQ (REGION [0, 1, 2] rfl (RUN 3 [] [(2, .p 0 0), (3, .p 1 0)] [(49, [vi a.kind, vi a.req.kind, vi a.req.id, vi a.req.cabin, vi a.req.from', vi a.req.size, vi a.req.tier, vi a.n, .slice a_keep_a a.keep.length a_keep_c]), (49, [vi b.kind, vi b.req.kind, vi b.req.id, vi b.req.cabin, vi b.req.from', vi b.req.size, vi b.req.tier, vi b.n, .slice b_keep_a b.keep.length b_keep_c])] ?_ rfl ?_))
  · as_aux_lemma => kernel_rfl
  refine ENDOPS (NEXT (SEQ (SEQ (REGION [0, 1, 2, 3, 4] rfl (RUN0 5 [] [(2, .p 0 0), (3, .p 1 0), (9, B (a.kind != b.kind))] ?_ rfl ?_)))))
  · as_aux_lemma => kernel_rfl
  refine ENDOPS (NEXT (IF (a.kind != b.kind) ?_ (fun bh1 => ?_) (fun bh1 => ?_)))
  · as_aux_lemma => kernel_rfl
  · -- a.kind != b.kind = true
    have h1 := bh1
    have h1 := bne_iff_ne.1 h1
    refine SEQ (REGION [0] rfl (RUN0 1 [] [(4, B false)] ?_ rfl ?_))
    · as_aux_lemma => kernel_rfl
    refine ENDOPS (NEXT (RET (PASS trivial (FIN (.bool false) ?_ () ?_ [] ?_))))
    · as_aux_lemma => kernel_rfl
    · simp [RV, eqAct, *]
    · rfl
  · -- a.kind != b.kind = false
    have h1 := bh1
    have h1 := bneF h1
    refine SKIP (NEXT (SEQ (SEQ (REGION [0, 1, 2, 3, 4, 5] rfl (RUN0 4 [4, 5] [(2, .p 0 0), (3, .p 1 0), (11, .v (.agg #[vi a.req.kind, vi a.req.id, vi a.req.cabin, vi a.req.from', vi a.req.size, vi a.req.tier])), (13, .v (.agg #[vi b.req.kind, vi b.req.id, vi b.req.cabin, vi b.req.from', vi b.req.size, vi b.req.tier]))] ?_ rfl ?_)))))
    · as_aux_lemma => kernel_rfl
    refine OPC (CALL 41 #[.agg #[vi a.req.kind, vi a.req.id, vi a.req.cabin, vi a.req.from', vi a.req.size, vi a.req.tier], .agg #[vi b.req.kind, vi b.req.id, vi b.req.cabin, vi b.req.from', vi b.req.size, vi b.req.tier]] (some 14) ?_ [] [] _ rfl (RV (.bool (eqReq a.req b.req))) (fun w hw => eqReq_c w a.req b.req) (by rintro _ ⟨⟩; exact Nat.le_of_ble_eq_true rfl) ?_)
    · as_aux_lemma => kernel_rfl
    rintro ⟨⟩
    refine RUN0 1 [] [(2, .p 0 0), (3, .p 1 0), (15, B (!(eqReq a.req b.req)))] ?_ rfl ?_
    · as_aux_lemma => kernel_rfl
    refine ENDOPS (NEXT (IF (!(eqReq a.req b.req)) ?_ (fun bh2 => ?_) (fun bh2 => ?_)))
    · as_aux_lemma => kernel_rfl
    · -- !(eqReq a.req b.req) = true
      have h2 := bh2
      have h2 := notT h2
      refine SEQ (REGION [0] rfl (RUN0 1 [] [(4, B false)] ?_ rfl ?_))
      · as_aux_lemma => kernel_rfl
      refine ENDOPS (NEXT (RET (PASS trivial (FIN (.bool false) ?_ () ?_ [] ?_))))
      · as_aux_lemma => kernel_rfl
      · simp [RV, eqAct, *]
      · rfl
    · -- !(eqReq a.req b.req) = false
      have h2 := bh2
      have h2 := notF h2
      refine SKIP (NEXT (SEQ (SEQ (REGION [0, 1, 2, 3, 4] rfl (RUN0 5 [] [(2, .p 0 0), (3, .p 1 0), (20, B (a.n != b.n))] ?_ rfl ?_)))))
      · as_aux_lemma => kernel_rfl
      refine ENDOPS (NEXT (IF (a.n != b.n) ?_ (fun bh3 => ?_) (fun bh3 => ?_)))
      · as_aux_lemma => kernel_rfl
      · -- a.n != b.n = true
        have h3 := bh3
        have h3 := bne_iff_ne.1 h3
        refine SEQ (REGION [0] rfl (RUN0 1 [] [(4, B false)] ?_ rfl ?_))
        · as_aux_lemma => kernel_rfl
        refine ENDOPS (NEXT (RET (PASS trivial (FIN (.bool false) ?_ () ?_ [] ?_))))
        · as_aux_lemma => kernel_rfl
        · simp [RV, eqAct, *]
        · rfl
      · -- a.n != b.n = false
        have h3 := bh3
        have h3 := bneF h3
        refine SKIP (NEXT (SEQ (SEQ (REGION [0, 1, 2, 3, 4, 5] rfl (RUN0 4 [4, 5] [(22, .v (.slice a_keep_a a.keep.length a_keep_c)), (24, .v (.slice b_keep_a b.keep.length b_keep_c))] ?_ rfl ?_)))))
        · as_aux_lemma => kernel_rfl
        refine OPC (CALL 36 #[.slice a_keep_a a.keep.length a_keep_c, .slice b_keep_a b.keep.length b_keep_c] (some 25) ?_ [] [] _ rfl (RV (.bool (eqInts a.keep b.keep))) (fun w hw => eqIntS_c w a.keep a_keep_a a_keep_c (ha_keep.fr hw.fr) b.keep b_keep_a b_keep_c (hb_keep.fr hw.fr)) (by rintro _ ⟨⟩; exact Nat.le_of_ble_eq_true rfl) ?_)
        · as_aux_lemma => kernel_rfl
        rintro ⟨⟩
        refine RUN0 1 [] [(26, B (!(eqInts a.keep b.keep)))] ?_ rfl ?_
        · as_aux_lemma => kernel_rfl
        refine ENDOPS (NEXT (IF (!(eqInts a.keep b.keep)) ?_ (fun bh4 => ?_) (fun bh4 => ?_)))
        · as_aux_lemma => kernel_rfl
        · -- !(eqInts a.keep b.keep) = true
          have h4 := bh4
          have h4 := notT h4
          refine SEQ (REGION [0] rfl (RUN0 1 [] [(4, B false)] ?_ rfl ?_))
          · as_aux_lemma => kernel_rfl
          refine ENDOPS (NEXT (RET (PASS trivial (FIN (.bool false) ?_ () ?_ [] ?_))))
          · as_aux_lemma => kernel_rfl
          · simp [RV, eqAct, *]
          · rfl
        · -- !(eqInts a.keep b.keep) = false
          have h4 := bh4
          have h4 := notF h4
          refine SKIP (NEXT (SEQ (REGION [0] rfl (RUN0 1 [] [(4, B true)] ?_ rfl ?_))))
          · as_aux_lemma => kernel_rfl
          refine ENDOPS (NEXT (RET (FIN (.bool true) ?_ () ?_ [] ?_)))
          · as_aux_lemma => kernel_rfl
          · simp [RV, eqAct, *]
          · rfl

theorem sActOk_c (W : World) (a : Act) (a_keep_a : Option Addr) (a_keep_c : Nat) (ha_keep : Rd intL W a_keep_a a.keep) : Spec Tryd.prog W [] 42 #[.agg #[vi a.kind, vi a.req.kind, vi a.req.id, vi a.req.cabin, vi a.req.from', vi a.req.size, vi a.req.tier, vi a.n, .slice a_keep_a a.keep.length a_keep_c]] (RV (.bool (actOk a))) := by
  refine ENTER0 (N := 83) (vs := [.agg #[vi a.kind, vi a.req.kind, vi a.req.id, vi a.req.cabin, vi a.req.from', vi a.req.size, vi a.req.tier, vi a.n, .slice a_keep_a a.keep.length a_keep_c]]) Tryd.func42 rfl rfl (Nat.le_of_ble_eq_true rfl) ?_
  have ha_keep_len := ha_keep.len
  refine SEQ (REGION [0, 1] rfl (RUN 2 [] [(1, .p 0 0)] [(49, [vi a.kind, vi a.req.kind, vi a.req.id, vi a.req.cabin, vi a.req.from', vi a.req.size, vi a.req.tier, vi a.n, .slice a_keep_a a.keep.length a_keep_c])] ?_ rfl ?_))
  · as_aux_lemma => kernel_rfl
  refine ENDOPS (NEXT (SEQ (REGION [0, 1, 2, 3, 4] rfl (RUN0 3 [3, 4] [(1, .p 0 0), (6, .v (.agg #[vi a.req.kind, vi a.req.id, vi a.req.cabin, vi a.req.from', vi a.req.size, vi a.req.tier])), (7, .v (.agg #[vi 0, vi 0, vi 0, vi 0, vi 0, vi 0]))] ?_ rfl ?_))))
  · as_aux_lemma => kernel_rfl
  refine OPC (RUNV (.binOp .eql 34 (.tmp 6) (.tmp 7) 34) 8 4 ?_ (Nat.le_of_ble_eq_true rfl) (.bool ((a.req.kind == 0) && ((a.req.id == 0) && ((a.req.cabin == 0) && ((a.req.from' == 0) && ((a.req.size == 0) && ((a.req.tier == 0) && true))))))) (runs_eql (xs := [vi a.req.kind, vi a.req.id, vi a.req.cabin, vi a.req.from', vi a.req.size, vi a.req.tier]) (ys := [vi 0, vi 0, vi 0, vi 0, vi 0, vi 0]) (r := (a.req.kind == 0) && ((a.req.id == 0) && ((a.req.cabin == 0) && ((a.req.from' == 0) && ((a.req.size == 0) && ((a.req.tier == 0) && true)))))) ?_ ?_ ?_) ?_)
  · as_aux_lemma => kernel_rfl
  · as_aux_lemma => kernel_rfl
  · as_aux_lemma => kernel_rfl
  · as_aux_lemma => kernel_rfl
  refine RUN0 1 [] [(1, .p 0 0), (3, B ((a.req.kind == 0) && ((a.req.id == 0) && ((a.req.cabin == 0) && ((a.req.from' == 0) && ((a.req.size == 0) && ((a.req.tier == 0) && true)))))))] ?_ rfl ?_
  · as_aux_lemma => kernel_rfl
  refine ENDOPS (NEXT (SEQ (SEQ (REGION [0, 1] rfl (RUN0 2 [] [(1, .p 0 0), (3, B ((a.req.kind == 0) && ((a.req.id == 0) && ((a.req.cabin == 0) && ((a.req.from' == 0) && ((a.req.size == 0) && ((a.req.tier == 0) && true))))))), (10, I a.kind)] ?_ rfl ?_)))))
  · as_aux_lemma => kernel_rfl
  refine ENDOPS (NEXT (BLOCK (SEQ (REGION [0, 1] rfl (RUN0 2 [] [(1, .p 0 0), (3, B ((a.req.kind == 0) && ((a.req.id == 0) && ((a.req.cabin == 0) && ((a.req.from' == 0) && ((a.req.size == 0) && ((a.req.tier == 0) && true))))))), (10, I a.kind), (11, B (a.kind == 1))] ?_ rfl ?_)))))
  · as_aux_lemma => kernel_rfl
  refine ENDOPS (NEXT (IF (a.kind == 1) ?_ (fun bh1 => ?_) (fun bh1 => ?_)))
  · as_aux_lemma => kernel_rfl
  · -- a.kind == 1 = true
    have h1 := bh1
    have h1 := eq_of_beq h1
    refine SEQ (REGION [0, 1, 2, 3, 4, 5, 6, 7, 8, 9, 10, 11, 12, 13, 14] rfl (RUN0 2 [2, 3, 4, 5, 6, 7, 8, 9, 10, 11, 12, 13, 14] [(1, .p 0 0), (14, .v (.agg #[vi a.req.kind, vi a.req.id, vi a.req.cabin, vi a.req.from', vi a.req.size, vi a.req.tier]))] ?_ rfl ?_))
    · as_aux_lemma => kernel_rfl
    refine OPC (CALL 37 #[.agg #[vi a.req.kind, vi a.req.id, vi a.req.cabin, vi a.req.from', vi a.req.size, vi a.req.tier]] (some 15) ?_ [] [] _ rfl (RV (.bool (reqOk a.req))) (fun w hw => sReqOk_c w a.req) (by rintro _ ⟨⟩; exact Nat.le_of_ble_eq_true rfl) ?_)
    · as_aux_lemma => kernel_rfl
    rintro ⟨⟩
    refine RUN0 1 [4, 5, 6, 7, 8, 9, 10, 11, 12, 13, 14] [(1, .p 0 0), (16, B (reqOk a.req))] ?_ rfl ?_
    · as_aux_lemma => kernel_rfl
    refine SPLIT (d := 16) (reqOk a.req) ?_ (fun bh2 => ?_) (fun bh2 => ?_)
    · as_aux_lemma => kernel_rfl
    · -- reqOk a.req = true
      have h2 := bh2
      refine RUN0 5 [9, 10, 11, 12, 13, 14] [(1, .p 0 0), (21, B (a.n == 0))] ?_ rfl ?_
      · as_aux_lemma => kernel_rfl
      refine SPLIT (d := 21) (a.n == 0) ?_ (fun bh3 => ?_) (fun bh3 => ?_)
      · as_aux_lemma => kernel_rfl
      · -- a.n == 0 = true
        have h3 := bh3
        have h3 := eq_of_beq h3
        refine RUN0 6 [] [(2, B ((a.keep.length : Int) == 0))] ?_ rfl ?_
        · as_aux_lemma => kernel_rfl
        refine ENDOPS (NEXT (RET (OUTR (PASS trivial (FIN (.bool ((a.keep.length : Int) == 0)) ?_ () ?_ [] ?_)))))
        · as_aux_lemma => kernel_rfl
        · simp_all [RV, actOk, noReq, reqEq, allKeep]
        · rfl
      · -- a.n == 0 = false
        have h3 := bh3
        have h3 := ne_of_beq_false h3
        refine RUN0 6 [] [(2, B false)] ?_ rfl ?_
        · as_aux_lemma => kernel_rfl
        refine ENDOPS (NEXT (RET (OUTR (PASS trivial (FIN (.bool false) ?_ () ?_ [] ?_)))))
        · as_aux_lemma => kernel_rfl
        · simp_all [RV, actOk, noReq, reqEq, allKeep]
        · rfl
    · -- reqOk a.req = false
      have h2 := bh2
      refine RUN0 11 [] [(2, B false)] ?_ rfl ?_
      · as_aux_lemma => kernel_rfl
      refine ENDOPS (NEXT (RET (OUTR (PASS trivial (FIN (.bool false) ?_ () ?_ [] ?_)))))
      · as_aux_lemma => kernel_rfl
      · simp_all [RV, actOk, noReq, reqEq, allKeep]
      · rfl
  · -- a.kind == 1 = false
    have h1 := bh1
    have h1 := ne_of_beq_false h1
    refine SEQ (REGION [0, 1] rfl (RUN0 2 [] [(1, .p 0 0), (3, B ((a.req.kind == 0) && ((a.req.id == 0) && ((a.req.cabin == 0) && ((a.req.from' == 0) && ((a.req.size == 0) && ((a.req.tier == 0) && true))))))), (10, I a.kind), (27, B (a.kind == 2))] ?_ rfl ?_))
    · as_aux_lemma => kernel_rfl
    refine ENDOPS (NEXT (IF (a.kind == 2) ?_ (fun bh4 => ?_) (fun bh4 => ?_)))
    · as_aux_lemma => kernel_rfl
    · -- a.kind == 2 = true
      have h4 := bh4
      have h4 := eq_of_beq h4
      refine SEQ (REGION [0, 1, 2, 3, 4, 5, 6, 7, 8, 9, 10, 11, 12] rfl (RUN0 2 [2, 3, 4, 5, 6, 7, 8, 9, 10, 11, 12] [(1, .p 0 0), (30, B ((a.req.kind == 0) && ((a.req.id == 0) && ((a.req.cabin == 0) && ((a.req.from' == 0) && ((a.req.size == 0) && ((a.req.tier == 0) && true)))))))] ?_ rfl ?_))
      · as_aux_lemma => kernel_rfl
      refine SPLIT (d := 30) ((a.req.kind == 0) && ((a.req.id == 0) && ((a.req.cabin == 0) && ((a.req.from' == 0) && ((a.req.size == 0) && ((a.req.tier == 0) && true)))))) ?_ (fun bh5 => ?_) (fun bh5 => ?_)
      · as_aux_lemma => kernel_rfl
      · -- (a.req.kind == 0) && ((a.req.id == 0) && ((a.req.cabin == 0) && ((a.req.from' == 0) && ((a.req.size  = true
        have h5 := bh5
        refine RUN0 5 [7, 8, 9, 10, 11, 12] [(1, .p 0 0), (35, B (a.n == 0))] ?_ rfl ?_
        · as_aux_lemma => kernel_rfl
        refine SPLIT (d := 35) (a.n == 0) ?_ (fun bh6 => ?_) (fun bh6 => ?_)
        · as_aux_lemma => kernel_rfl
        · -- a.n == 0 = true
          have h6 := bh6
          have h6 := eq_of_beq h6
          refine RUN0 6 [] [(2, B ((a.keep.length : Int) == 0))] ?_ rfl ?_
          · as_aux_lemma => kernel_rfl
          refine ENDOPS (NEXT (RET (OUTR (PASS trivial (FIN (.bool ((a.keep.length : Int) == 0)) ?_ () ?_ [] ?_)))))
          · as_aux_lemma => kernel_rfl
          · simp_all [RV, actOk, noReq, reqEq, allKeep]
          · rfl
        · -- a.n == 0 = false
          have h6 := bh6
          have h6 := ne_of_beq_false h6
          refine RUN0 6 [] [(2, B false)] ?_ rfl ?_
          · as_aux_lemma => kernel_rfl
          refine ENDOPS (NEXT (RET (OUTR (PASS trivial (FIN (.bool false) ?_ () ?_ [] ?_)))))
          · as_aux_lemma => kernel_rfl
          · simp_all [RV, actOk, noReq, reqEq, allKeep]
          · rfl
      · -- (a.req.kind == 0) && ((a.req.id == 0) && ((a.req.cabin == 0) && ((a.req.from' == 0) && ((a.req.size  = false
        have h5 := bh5
        refine RUN0 11 [] [(2, B false)] ?_ rfl ?_
        · as_aux_lemma => kernel_rfl
        refine ENDOPS (NEXT (RET (OUTR (PASS trivial (FIN (.bool false) ?_ () ?_ [] ?_)))))
        · as_aux_lemma => kernel_rfl
        · simp_all [RV, actOk, noReq, reqEq, allKeep]
        · rfl
    · -- a.kind == 2 = false
      have h4 := bh4
      have h4 := ne_of_beq_false h4
      refine SEQ (REGION [0, 1] rfl (RUN0 2 [] [(1, .p 0 0), (3, B ((a.req.kind == 0) && ((a.req.id == 0) && ((a.req.cabin == 0) && ((a.req.from' == 0) && ((a.req.size == 0) && ((a.req.tier == 0) && true))))))), (10, I a.kind), (41, B (a.kind == 3))] ?_ rfl ?_))
      · as_aux_lemma => kernel_rfl
      refine ENDOPS (NEXT (IF (a.kind == 3) ?_ (fun bh7 => ?_) (fun bh7 => ?_)))
      · as_aux_lemma => kernel_rfl
      · -- a.kind == 3 = true
        have h7 := bh7
        have h7 := eq_of_beq h7
        refine SEQ (REGION [0, 1, 2, 3, 4, 5, 6, 7, 8, 9, 10, 11, 12] rfl (RUN0 2 [2, 3, 4, 5, 6, 7, 8, 9, 10, 11, 12] [(1, .p 0 0), (44, B ((a.req.kind == 0) && ((a.req.id == 0) && ((a.req.cabin == 0) && ((a.req.from' == 0) && ((a.req.size == 0) && ((a.req.tier == 0) && true)))))))] ?_ rfl ?_))
        · as_aux_lemma => kernel_rfl
        refine SPLIT (d := 44) ((a.req.kind == 0) && ((a.req.id == 0) && ((a.req.cabin == 0) && ((a.req.from' == 0) && ((a.req.size == 0) && ((a.req.tier == 0) && true)))))) ?_ (fun bh8 => ?_) (fun bh8 => ?_)
        · as_aux_lemma => kernel_rfl
        · -- (a.req.kind == 0) && ((a.req.id == 0) && ((a.req.cabin == 0) && ((a.req.from' == 0) && ((a.req.size  = true
          have h8 := bh8
          refine RUN0 2 [4, 5, 6, 7, 8, 9, 10, 11, 12] [(1, .p 0 0), (44, B true), (46, I a.n)] ?_ rfl ?_
          · as_aux_lemma => kernel_rfl
          refine OPC (CALL 52 #[vi a.n] (some 47) ?_ [] [] _ rfl (RV (.bool (usedB a.n))) (fun w hw => l12Field_c w a.n) (by rintro _ ⟨⟩; exact Nat.le_of_ble_eq_true rfl) ?_)
          · as_aux_lemma => kernel_rfl
          rintro ⟨⟩
          refine RUN0 2 [7, 8, 9, 10, 11, 12] [(1, .p 0 0), (49, B (usedB a.n))] ?_ rfl ?_
          · as_aux_lemma => kernel_rfl
          refine SPLIT (d := 49) (usedB a.n) ?_ (fun bh9 => ?_) (fun bh9 => ?_)
          · as_aux_lemma => kernel_rfl
          · -- usedB a.n = true
            have h9 := bh9
            refine RUN0 6 [] [(2, B ((a.keep.length : Int) == 0))] ?_ rfl ?_
            · as_aux_lemma => kernel_rfl
            refine ENDOPS (NEXT (RET (OUTR (PASS trivial (FIN (.bool ((a.keep.length : Int) == 0)) ?_ () ?_ [] ?_)))))
            · as_aux_lemma => kernel_rfl
            · simp_all [RV, actOk, noReq, reqEq, allKeep]
            · rfl
          · -- usedB a.n = false
            have h9 := bh9
            refine RUN0 6 [] [(2, B false)] ?_ rfl ?_
            · as_aux_lemma => kernel_rfl
            refine ENDOPS (NEXT (RET (OUTR (PASS trivial (FIN (.bool false) ?_ () ?_ [] ?_)))))
            · as_aux_lemma => kernel_rfl
            · simp_all [RV, actOk, noReq, reqEq, allKeep]
            · rfl
        · -- (a.req.kind == 0) && ((a.req.id == 0) && ((a.req.cabin == 0) && ((a.req.from' == 0) && ((a.req.size  = false
          have h8 := bh8
          refine RUN0 11 [] [(2, B false)] ?_ rfl ?_
          · as_aux_lemma => kernel_rfl
          refine ENDOPS (NEXT (RET (OUTR (PASS trivial (FIN (.bool false) ?_ () ?_ [] ?_)))))
          · as_aux_lemma => kernel_rfl
          · simp_all [RV, actOk, noReq, reqEq, allKeep]
          · rfl
      · -- a.kind == 3 = false
        have h7 := bh7
        have h7 := ne_of_beq_false h7
        refine SEQ (REGION [0, 1] rfl (RUN0 2 [] [(1, .p 0 0), (3, B ((a.req.kind == 0) && ((a.req.id == 0) && ((a.req.cabin == 0) && ((a.req.from' == 0) && ((a.req.size == 0) && ((a.req.tier == 0) && true))))))), (55, B (a.kind == 4))] ?_ rfl ?_))
        · as_aux_lemma => kernel_rfl
        refine ENDOPS (NEXT (IF (a.kind == 4) ?_ (fun bh10 => ?_) (fun bh10 => ?_)))
        · as_aux_lemma => kernel_rfl
        · -- a.kind == 4 = true
          have h10 := bh10
          have h10 := eq_of_beq h10
          refine SEQ (SEQ (REGION [0] rfl (RUN0 1 [] [(1, .p 0 0), (3, B ((a.req.kind == 0) && ((a.req.id == 0) && ((a.req.cabin == 0) && ((a.req.from' == 0) && ((a.req.size == 0) && ((a.req.tier == 0) && true))))))), (4, I 0)] ?_ rfl ?_)))
          · as_aux_lemma => kernel_rfl
          refine ENDOPS (NEXT (BLOCK (LOOP (ι := Nat × (List Int)) (fun j => [(1, .p 0 0), (3, B ((a.req.kind == 0) && ((a.req.id == 0) && ((a.req.cabin == 0) && ((a.req.from' == 0) && ((a.req.size == 0) && ((a.req.tier == 0) && true))))))), (4, I (j.1 : Int))]) (fun j => [(49, [vi a.kind, vi a.req.kind, vi a.req.id, vi a.req.cabin, vi a.req.from', vi a.req.size, vi a.req.tier, vi a.n, .slice a_keep_a a.keep.length a_keep_c])]) (fun j => []) (fun j => j.1 + j.2.length = a.keep.length ∧ a.keep.drop j.1 = j.2 ∧ allKeep a.keep = allKeep j.2) (fun j => j.2.length) (0, a.keep) [1, 3, 4] ⟨by simp, rfl, rfl⟩ ?_ rfl rfl ?_)))
          · as_aux_lemma => kernel_rfl
          rintro ⟨k, ys⟩ ⟨hk, hd, hv0⟩
          dsimp only at hk hd hv0
          refine SEQ (SEQ (REGION [0, 1, 2, 3, 4] rfl (RUN0 5 [] [(1, .p 0 0), (3, B ((a.req.kind == 0) && ((a.req.id == 0) && ((a.req.cabin == 0) && ((a.req.from' == 0) && ((a.req.size == 0) && ((a.req.tier == 0) && true))))))), (4, I (k : Int)), (61, B (decide ((k : Int) < (a.keep.length : Int))))] ?_ rfl ?_)))
          · as_aux_lemma => kernel_rfl
          refine ENDOPS (NEXT (IF (decide ((k : Int) < (a.keep.length : Int))) ?_ (fun bh11 => ?_) (fun bh11 => ?_)))
          · as_aux_lemma => kernel_rfl
          · -- decide ((k : Int) < (a.keep.length : Int)) = true
            have h11 := bh11
            have h11 := of_decide_eq_true h11
            obtain ⟨y12, ys13, rfl, hx_y12, hd_y12, hl_y12⟩ := drop_cons hd hk (by omega)
            refine SKIP (NEXT (SEQ (BLOCK (SEQ (REGION [0, 1, 2, 3, 4, 5, 6] rfl (RUN0 3 [3, 4, 5, 6] [(1, .p 0 0), (3, B ((a.req.kind == 0) && ((a.req.id == 0) && ((a.req.cabin == 0) && ((a.req.from' == 0) && ((a.req.size == 0) && ((a.req.tier == 0) && true))))))), (4, I (k : Int)), (65, .v (.slice a_keep_a a.keep.length a_keep_c)), (66, I (k : Int))] ?_ rfl ?_))))))
            · as_aux_lemma => kernel_rfl
            refine OPC (INDEX 22 (.tmp 65) (.tmp 66) 67 0 ?_ (Nat.le_of_ble_eq_true rfl) a_keep_a a.keep.length a_keep_c .i64 (k : Int) 3 1 ?_ ?_ ?_ ?_ (Rd.some ha_keep (by omega)) (by omega) (by omega) ?_)
            · as_aux_lemma => kernel_rfl
            · as_aux_lemma => kernel_rfl
            · as_aux_lemma => kernel_rfl
            · as_aux_lemma => kernel_rfl
            · as_aux_lemma => kernel_rfl
            refine OPC (LOADE 3 (.tmp 67) 68 3 ?_ (Nat.le_of_ble_eq_true rfl) a_keep_a (k * 1) 0 [vi y12] (vi y12) ?_ (fun w hw => (ha_keep.fr hw.fr).flat hx_y12) ?_ ?_)
            · as_aux_lemma => kernel_rfl
            · as_aux_lemma => kernel_rfl
            · as_aux_lemma => kernel_rfl
            refine OPC (CALL 48 #[vi y12, vi 0, vi 20000] (some 69) ?_ [] [] _ rfl (RV (.bool (inB y12 0 20000))) (fun w hw => l1In_c w y12 0 20000) (by rintro _ ⟨⟩; exact Nat.le_of_ble_eq_true rfl) ?_)
            · as_aux_lemma => kernel_rfl
            rintro ⟨⟩
            refine RUN0 1 [] [(1, .p 0 0), (3, B ((a.req.kind == 0) && ((a.req.id == 0) && ((a.req.cabin == 0) && ((a.req.from' == 0) && ((a.req.size == 0) && ((a.req.tier == 0) && true))))))), (4, I (k : Int)), (70, B (!(inB y12 0 20000)))] ?_ rfl ?_
            · as_aux_lemma => kernel_rfl
            refine ENDOPS (NEXT (IF (!(inB y12 0 20000)) ?_ (fun bh14 => ?_) (fun bh14 => ?_)))
            · as_aux_lemma => kernel_rfl
            · -- !(inB y12 0 20000) = true
              have h14 := bh14
              have h14 := notT h14
              refine SEQ (REGION [0] rfl (RUN0 1 [] [(2, B false)] ?_ rfl ?_))
              · as_aux_lemma => kernel_rfl
              refine ENDOPS (NEXT (RET (OUTR (PASS trivial (PASS trivial (OUTR (PASS trivial (OUTR (PASS trivial (FIN (.bool false) ?_ () ?_ [] ?_))))))))))
              · as_aux_lemma => kernel_rfl
              · simp_all [RV, actOk, noReq, reqEq, allKeep]
              · rfl
            · -- !(inB y12 0 20000) = false
              have h14 := bh14
              have h14 := notF h14
              refine SKIP (OUTN (NEXT (REGION [0, 1, 2] rfl (RUN0 2 [2] [(1, .p 0 0), (3, B ((a.req.kind == 0) && ((a.req.id == 0) && ((a.req.cabin == 0) && ((a.req.from' == 0) && ((a.req.size == 0) && ((a.req.tier == 0) && true))))))), (63, I (wr ((k : Int) + 1)))] ?_ rfl ?_))))
              · as_aux_lemma => kernel_rfl
              refine CAST (d := 63) (vi (wr ((k : Int) + 1))) (vi ((k + 1 : Nat) : Int)) ?_ (vi_cast (by omega) (by omega)) ?_
              · as_aux_lemma => kernel_rfl
              refine RUN0 1 [] [(1, .p 0 0), (3, B ((a.req.kind == 0) && ((a.req.id == 0) && ((a.req.cabin == 0) && ((a.req.from' == 0) && ((a.req.size == 0) && ((a.req.tier == 0) && true))))))), (4, I ((k + 1 : Nat) : Int))] ?_ rfl ?_
              · as_aux_lemma => kernel_rfl
              refine ENDOPS (BACK (k + 1, ys13) [1, 3, 4] 1 [] _ ⟨hl_y12, hd_y12, hv0.trans (by simp [allKeep, *])⟩ (by simp) ?_ rfl rfl rfl)
              · as_aux_lemma => kernel_rfl
          · -- decide ((k : Int) < (a.keep.length : Int)) = false
            have h11 := bh11
            have h11 := of_decide_eq_false h11
            obtain rfl := drop_nil hk (by omega)
            refine EXIT (PASS trivial (PASS trivial (OUT (NEXT (SEQ (REGION [0, 1, 2, 3, 4, 5, 6, 7, 8, 9, 10, 11, 12] rfl (RUN0 2 [2, 3, 4, 5, 6, 7, 8, 9, 10, 11, 12] [(1, .p 0 0), (72, B ((a.req.kind == 0) && ((a.req.id == 0) && ((a.req.cabin == 0) && ((a.req.from' == 0) && ((a.req.size == 0) && ((a.req.tier == 0) && true)))))))] ?_ rfl ?_)))))))
            · as_aux_lemma => kernel_rfl
            refine SPLIT (d := 72) ((a.req.kind == 0) && ((a.req.id == 0) && ((a.req.cabin == 0) && ((a.req.from' == 0) && ((a.req.size == 0) && ((a.req.tier == 0) && true)))))) ?_ (fun bh15 => ?_) (fun bh15 => ?_)
            · as_aux_lemma => kernel_rfl
            · -- (a.req.kind == 0) && ((a.req.id == 0) && ((a.req.cabin == 0) && ((a.req.from' == 0) && ((a.req.size  = true
              have h15 := bh15
              refine RUN0 5 [7, 8, 9, 10, 11, 12] [(1, .p 0 0), (77, B (a.n == 0))] ?_ rfl ?_
              · as_aux_lemma => kernel_rfl
              refine SPLIT (d := 77) (a.n == 0) ?_ (fun bh16 => ?_) (fun bh16 => ?_)
              · as_aux_lemma => kernel_rfl
              · -- a.n == 0 = true
                have h16 := bh16
                have h16 := eq_of_beq h16
                refine RUN0 6 [] [(2, B (decide ((a.keep.length : Int) ≤ 3)))] ?_ rfl ?_
                · as_aux_lemma => kernel_rfl
                refine ENDOPS (NEXT (RET (OUTR (PASS trivial (FIN (.bool (decide ((a.keep.length : Int) ≤ 3))) ?_ () ?_ [] ?_)))))
                · as_aux_lemma => kernel_rfl
                · simp_all [RV, actOk, noReq, reqEq, allKeep]
                · rfl
              · -- a.n == 0 = false
                have h16 := bh16
                have h16 := ne_of_beq_false h16
                refine RUN0 6 [] [(2, B false)] ?_ rfl ?_
                · as_aux_lemma => kernel_rfl
                refine ENDOPS (NEXT (RET (OUTR (PASS trivial (FIN (.bool false) ?_ () ?_ [] ?_)))))
                · as_aux_lemma => kernel_rfl
                · simp_all [RV, actOk, noReq, reqEq, allKeep]
                · rfl
            · -- (a.req.kind == 0) && ((a.req.id == 0) && ((a.req.cabin == 0) && ((a.req.from' == 0) && ((a.req.size  = false
              have h15 := bh15
              refine RUN0 11 [] [(2, B false)] ?_ rfl ?_
              · as_aux_lemma => kernel_rfl
              refine ENDOPS (NEXT (RET (OUTR (PASS trivial (FIN (.bool false) ?_ () ?_ [] ?_)))))
              · as_aux_lemma => kernel_rfl
              · simp_all [RV, actOk, noReq, reqEq, allKeep]
              · rfl
        · -- a.kind == 4 = false
          have h10 := bh10
          have h10 := ne_of_beq_false h10
          refine SKIP (OUTN (NEXT (SEQ (REGION [0] rfl (RUN0 1 [] [(2, B false)] ?_ rfl ?_)))))
          · as_aux_lemma => kernel_rfl
          refine ENDOPS (NEXT (RET (FIN (.bool false) ?_ () ?_ [] ?_)))
          · as_aux_lemma => kernel_rfl
          · simp_all [RV, actOk, noReq, reqEq, allKeep]
          · rfl

theorem iActOk_c (W : World) (a : Act) (a_keep_a : Option Addr) (a_keep_c : Nat) (ha_keep : Rd intL W a_keep_a a.keep) : Spec Tryd.prog W [] 43 #[.agg #[vi a.kind, vi a.req.kind, vi a.req.id, vi a.req.cabin, vi a.req.from', vi a.req.size, vi a.req.tier, vi a.n, .slice a_keep_a a.keep.length a_keep_c]] (RV (.bool (actOk a))) := by
  refine ENTER0 (N := 66) (vs := [.agg #[vi a.kind, vi a.req.kind, vi a.req.id, vi a.req.cabin, vi a.req.from', vi a.req.size, vi a.req.tier, vi a.n, .slice a_keep_a a.keep.length a_keep_c]]) Tryd.func43 rfl rfl (Nat.le_of_ble_eq_true rfl) ?_
  have ha_keep_len := ha_keep.len
  refine SEQ (REGION [0, 1] rfl (RUN 2 [] [(1, .p 0 0)] [(49, [vi a.kind, vi a.req.kind, vi a.req.id, vi a.req.cabin, vi a.req.from', vi a.req.size, vi a.req.tier, vi a.n, .slice a_keep_a a.keep.length a_keep_c])] ?_ rfl ?_))
  · as_aux_lemma => kernel_rfl
  refine ENDOPS (NEXT (SEQ (SEQ (REGION [0, 1, 2, 3, 4, 5, 6, 7, 8, 9, 10, 11, 12, 13, 14, 15, 16, 17, 18, 19, 20, 21, 22, 23, 24, 25, 26, 27, 28, 29] rfl (RUN0 4 [4, 5, 6, 7, 8, 9, 10, 11, 12, 13, 14, 15, 16, 17, 18, 19, 20, 21, 22, 23, 24, 25, 26, 27, 28, 29] [(1, .p 0 0), (8, B (a.kind != 1))] ?_ rfl ?_)))))
  · as_aux_lemma => kernel_rfl
  refine SPLIT (d := 8) (a.kind != 1) ?_ (fun bh1 => ?_) (fun bh1 => ?_)
  · as_aux_lemma => kernel_rfl
  · -- a.kind != 1 = true
    have h1 := bh1
    have h1 := bne_iff_ne.1 h1
    refine RUN0 3 [7, 8, 9, 10, 11, 12, 13, 14, 15, 16, 17, 18, 19, 20, 21, 22, 23, 24, 25, 26, 27, 28, 29] [(1, .p 0 0), (8, B true), (10, .v (.agg #[vi a.req.kind, vi a.req.id, vi a.req.cabin, vi a.req.from', vi a.req.size, vi a.req.tier])), (11, .v (.agg #[vi 0, vi 0, vi 0, vi 0, vi 0, vi 0]))] ?_ rfl ?_
    · as_aux_lemma => kernel_rfl
    refine OPC (RUNV (.binOp .neq 34 (.tmp 10) (.tmp 11) 34) 12 4 ?_ (Nat.le_of_ble_eq_true rfl) (.bool (!((a.req.kind == 0) && ((a.req.id == 0) && ((a.req.cabin == 0) && ((a.req.from' == 0) && ((a.req.size == 0) && ((a.req.tier == 0) && true)))))))) (runs_neq (xs := [vi a.req.kind, vi a.req.id, vi a.req.cabin, vi a.req.from', vi a.req.size, vi a.req.tier]) (ys := [vi 0, vi 0, vi 0, vi 0, vi 0, vi 0]) (r := (a.req.kind == 0) && ((a.req.id == 0) && ((a.req.cabin == 0) && ((a.req.from' == 0) && ((a.req.size == 0) && ((a.req.tier == 0) && true)))))) ?_ ?_ ?_) ?_)
    · as_aux_lemma => kernel_rfl
    · as_aux_lemma => kernel_rfl
    · as_aux_lemma => kernel_rfl
    · as_aux_lemma => kernel_rfl
    refine RUN0 2 [10, 11, 12, 13, 14, 15, 16, 17, 18, 19, 20, 21, 22, 23, 24, 25, 26, 27, 28, 29] [(1, .p 0 0), (14, B (!((a.req.kind == 0) && ((a.req.id == 0) && ((a.req.cabin == 0) && ((a.req.from' == 0) && ((a.req.size == 0) && ((a.req.tier == 0) && true))))))))] ?_ rfl ?_
    · as_aux_lemma => kernel_rfl
    refine SPLIT (d := 14) (!((a.req.kind == 0) && ((a.req.id == 0) && ((a.req.cabin == 0) && ((a.req.from' == 0) && ((a.req.size == 0) && ((a.req.tier == 0) && true))))))) ?_ (fun bh2 => ?_) (fun bh2 => ?_)
    · as_aux_lemma => kernel_rfl
    · -- !((a.req.kind == 0) && ((a.req.id == 0) && ((a.req.cabin == 0) && ((a.req.from' == 0) && ((a.req.siz = true
      have h2 := bh2
      have h2 := notT h2
      refine RUN0 20 [] [(1, .p 0 0), (34, B true)] ?_ rfl ?_
      · as_aux_lemma => kernel_rfl
      refine ENDOPS (NEXT (IFT ?_ ?_))
      · as_aux_lemma => kernel_rfl
      refine SEQ (REGION [0] rfl (RUN0 1 [] [(2, B false)] ?_ rfl ?_))
      · as_aux_lemma => kernel_rfl
      refine ENDOPS (NEXT (RET (PASS trivial (FIN (.bool false) ?_ () ?_ [] ?_))))
      · as_aux_lemma => kernel_rfl
      · (try simp [usedB] at *); simp_all [RV, actOk, noReq, reqEq, allKeep, usedB, List.length_pos_iff]
      · rfl
    · -- !((a.req.kind == 0) && ((a.req.id == 0) && ((a.req.cabin == 0) && ((a.req.from' == 0) && ((a.req.siz = false
      have h2 := bh2
      have h2 := notF h2
      refine RUN0 4 [14, 15, 16, 17, 18, 19, 20, 21, 22, 23, 24, 25, 26, 27, 28, 29] [(1, .p 0 0), (14, B false), (18, B (a.kind != 3))] ?_ rfl ?_
      · as_aux_lemma => kernel_rfl
      refine SPLIT (d := 18) (a.kind != 3) ?_ (fun bh3 => ?_) (fun bh3 => ?_)
      · as_aux_lemma => kernel_rfl
      · -- a.kind != 3 = true
        have h3 := bh3
        have h3 := bne_iff_ne.1 h3
        refine RUN0 6 [20, 21, 22, 23, 24, 25, 26, 27, 28, 29] [(1, .p 0 0), (24, B (a.n != 0))] ?_ rfl ?_
        · as_aux_lemma => kernel_rfl
        refine SPLIT (d := 24) (a.n != 0) ?_ (fun bh4 => ?_) (fun bh4 => ?_)
        · as_aux_lemma => kernel_rfl
        · -- a.n != 0 = true
          have h4 := bh4
          have h4 := bne_iff_ne.1 h4
          refine RUN0 10 [] [(1, .p 0 0), (34, B true)] ?_ rfl ?_
          · as_aux_lemma => kernel_rfl
          refine ENDOPS (NEXT (IFT ?_ ?_))
          · as_aux_lemma => kernel_rfl
          refine SEQ (REGION [0] rfl (RUN0 1 [] [(2, B false)] ?_ rfl ?_))
          · as_aux_lemma => kernel_rfl
          refine ENDOPS (NEXT (RET (PASS trivial (FIN (.bool false) ?_ () ?_ [] ?_))))
          · as_aux_lemma => kernel_rfl
          · (try simp [usedB] at *); simp_all [RV, actOk, noReq, reqEq, allKeep, usedB, List.length_pos_iff]
          · rfl
        · -- a.n != 0 = false
          have h4 := bh4
          have h4 := bneF h4
          refine RUN0 4 [24, 25, 26, 27, 28, 29] [(1, .p 0 0), (24, B false), (28, B (a.kind != 4))] ?_ rfl ?_
          · as_aux_lemma => kernel_rfl
          refine SPLIT (d := 28) (a.kind != 4) ?_ (fun bh5 => ?_) (fun bh5 => ?_)
          · as_aux_lemma => kernel_rfl
          · -- a.kind != 4 = true
            have h5 := bh5
            have h5 := bne_iff_ne.1 h5
            refine RUN0 6 [] [(1, .p 0 0), (34, B (decide ((a.keep.length : Int) > 0)))] ?_ rfl ?_
            · as_aux_lemma => kernel_rfl
            refine ENDOPS (NEXT (IF (decide ((a.keep.length : Int) > 0)) ?_ (fun bh6 => ?_) (fun bh6 => ?_)))
            · as_aux_lemma => kernel_rfl
            · -- decide ((a.keep.length : Int) > 0) = true
              have h6 := bh6
              have h6 := of_decide_eq_true h6
              refine SEQ (REGION [0] rfl (RUN0 1 [] [(2, B false)] ?_ rfl ?_))
              · as_aux_lemma => kernel_rfl
              refine ENDOPS (NEXT (RET (PASS trivial (FIN (.bool false) ?_ () ?_ [] ?_))))
              · as_aux_lemma => kernel_rfl
              · (try simp [usedB] at *); simp_all [RV, actOk, noReq, reqEq, allKeep, usedB, List.length_pos_iff]
              · rfl
            · -- decide ((a.keep.length : Int) > 0) = false
              have h6 := bh6
              have h6 := of_decide_eq_false h6
              refine SKIP (NEXT (SEQ (SEQ (REGION [0, 1] rfl (RUN0 2 [] [(1, .p 0 0), (36, I a.kind)] ?_ rfl ?_)))))
              · as_aux_lemma => kernel_rfl
              refine ENDOPS (NEXT (BLOCK (SEQ (REGION [0, 1] rfl (RUN0 2 [] [(1, .p 0 0), (36, I a.kind), (37, B (a.kind == 1))] ?_ rfl ?_)))))
              · as_aux_lemma => kernel_rfl
              refine ENDOPS (NEXT (IF (a.kind == 1) ?_ (fun bh7 => ?_) (fun bh7 => ?_)))
              · as_aux_lemma => kernel_rfl
              · -- a.kind == 1 = true
                have h7 := bh7
                have h7 := eq_of_beq h7
                refine SEQ (REGION [0, 1, 2, 3] rfl (RUN0 2 [2, 3] [(40, .v (.agg #[vi a.req.kind, vi a.req.id, vi a.req.cabin, vi a.req.from', vi a.req.size, vi a.req.tier]))] ?_ rfl ?_))
                · as_aux_lemma => kernel_rfl
                refine OPC (CALL 39 #[.agg #[vi a.req.kind, vi a.req.id, vi a.req.cabin, vi a.req.from', vi a.req.size, vi a.req.tier]] (some 41) ?_ [] [] _ rfl (RV (.bool (reqOk a.req))) (fun w hw => iReqOk_c w a.req) (by rintro _ ⟨⟩; exact Nat.le_of_ble_eq_true rfl) ?_)
                · as_aux_lemma => kernel_rfl
                rintro ⟨⟩
                refine RUN0 1 [] [(2, B (reqOk a.req))] ?_ rfl ?_
                · as_aux_lemma => kernel_rfl
                refine ENDOPS (NEXT (RET (OUTR (PASS trivial (FIN (.bool (reqOk a.req)) ?_ () ?_ [] ?_)))))
                · as_aux_lemma => kernel_rfl
                · (try simp [usedB] at *); simp_all [RV, actOk, noReq, reqEq, allKeep, usedB, List.length_pos_iff]
                · rfl
              · -- a.kind == 1 = false
                have h7 := bh7
                have h7 := ne_of_beq_false h7
                refine SEQ (REGION [0, 1] rfl (RUN0 2 [] [(1, .p 0 0), (36, I a.kind), (42, B (a.kind == 2))] ?_ rfl ?_))
                · as_aux_lemma => kernel_rfl
                refine ENDOPS (NEXT (IF (a.kind == 2) ?_ (fun bh8 => ?_) (fun bh8 => ?_)))
                · as_aux_lemma => kernel_rfl
                · -- a.kind == 2 = true
                  have h8 := bh8
                  have h8 := eq_of_beq h8
                  refine SEQ (REGION [0] rfl (RUN0 1 [] [(2, B true)] ?_ rfl ?_))
                  · as_aux_lemma => kernel_rfl
                  refine ENDOPS (NEXT (RET (OUTR (PASS trivial (FIN (.bool true) ?_ () ?_ [] ?_)))))
                  · as_aux_lemma => kernel_rfl
                  · (try simp [usedB] at *); simp_all [RV, actOk, noReq, reqEq, allKeep, usedB, List.length_pos_iff]
                  · rfl
                · -- a.kind == 2 = false
                  have h8 := bh8
                  have h8 := ne_of_beq_false h8
                  refine SEQ (REGION [0, 1] rfl (RUN0 2 [] [(1, .p 0 0), (36, I a.kind), (44, B (a.kind == 3))] ?_ rfl ?_))
                  · as_aux_lemma => kernel_rfl
                  refine ENDOPS (NEXT (IF (a.kind == 3) ?_ (fun bh9 => ?_) (fun bh9 => ?_)))
                  · as_aux_lemma => kernel_rfl
                  · -- a.kind == 3 = true
                    have h9 := bh9
                    have h9 := eq_of_beq h9
                    refine SEQ (REGION [0, 1, 2, 3] rfl (RUN0 2 [2, 3] [(47, I a.n)] ?_ rfl ?_))
                    · as_aux_lemma => kernel_rfl
                    refine OPC (CALL 54 #[vi a.n, vi 0, vi 9999] (some 48) ?_ [] [] _ rfl (RV (.bool (inB a.n 0 9999))) (fun w hw => within_c w a.n 0 9999) (by rintro _ ⟨⟩; exact Nat.le_of_ble_eq_true rfl) ?_)
                    · as_aux_lemma => kernel_rfl
                    rintro ⟨⟩
                    refine RUN0 1 [] [(2, B (inB a.n 0 9999))] ?_ rfl ?_
                    · as_aux_lemma => kernel_rfl
                    refine ENDOPS (NEXT (RET (OUTR (PASS trivial (FIN (.bool (inB a.n 0 9999)) ?_ () ?_ [] ?_)))))
                    · as_aux_lemma => kernel_rfl
                    · (try simp [usedB] at *); simp_all [RV, actOk, noReq, reqEq, allKeep, usedB, List.length_pos_iff]
                    · rfl
                  · -- a.kind == 3 = false
                    have h9 := bh9
                    have h9 := ne_of_beq_false h9
                    refine SEQ (REGION [0, 1] rfl (RUN0 2 [] [(1, .p 0 0), (49, B (a.kind == 4))] ?_ rfl ?_))
                    · as_aux_lemma => kernel_rfl
                    refine ENDOPS (NEXT (IF (a.kind == 4) ?_ (fun bh10 => ?_) (fun bh10 => ?_)))
                    · as_aux_lemma => kernel_rfl
                    · -- a.kind == 4 = true
                      have h10 := bh10
                      have h10 := eq_of_beq h10
                      refine SEQ (SEQ (REGION [0, 1, 2, 3] rfl (RUN0 4 [] [(1, .p 0 0), (52, .v (.slice a_keep_a a.keep.length a_keep_c)), (53, I (a.keep.length : Int)), (54, I 0)] ?_ rfl ?_)))
                      · as_aux_lemma => kernel_rfl
                      refine ENDOPS (NEXT (BLOCK (LOOP (ι := Nat × (List Int)) (fun j => [(1, .p 0 0), (52, .v (.slice a_keep_a a.keep.length a_keep_c)), (53, I (a.keep.length : Int)), (54, I (j.1 : Int))]) (fun j => [(49, [vi a.kind, vi a.req.kind, vi a.req.id, vi a.req.cabin, vi a.req.from', vi a.req.size, vi a.req.tier, vi a.n, .slice a_keep_a a.keep.length a_keep_c])]) (fun j => []) (fun j => j.1 + j.2.length = a.keep.length ∧ a.keep.drop j.1 = j.2 ∧ allKeep a.keep = allKeep j.2) (fun j => j.2.length) (0, a.keep) [1, 52, 53, 54] ⟨by simp, rfl, rfl⟩ ?_ rfl rfl ?_)))
                      · as_aux_lemma => kernel_rfl
                      rintro ⟨k, ys⟩ ⟨hk, hd, hv0⟩
                      dsimp only at hk hd hv0
                      refine SEQ (REGION [0] rfl (RUN0 1 [] [(1, .p 0 0), (52, .v (.slice a_keep_a a.keep.length a_keep_c)), (53, I (a.keep.length : Int)), (54, I (k : Int)), (55, B (decide ((k : Int) < (a.keep.length : Int))))] ?_ rfl ?_))
                      · as_aux_lemma => kernel_rfl
                      refine ENDOPS (NEXT (SEQ (IF (decide ((k : Int) < (a.keep.length : Int))) ?_ (fun bh11 => ?_) (fun bh11 => ?_))))
                      · as_aux_lemma => kernel_rfl
                      · -- decide ((k : Int) < (a.keep.length : Int)) = true
                        have h11 := bh11
                        have h11 := of_decide_eq_true h11
                        obtain ⟨y12, ys13, rfl, hx_y12, hd_y12, hl_y12⟩ := drop_cons hd hk (by omega)
                        refine SKIP (NEXT (SEQ (BLOCK (SEQ (REGION [0, 1, 2] rfl (OPC (INDEX 22 (.tmp 52) (.tmp 54) 56 0 ?_ (Nat.le_of_ble_eq_true rfl) a_keep_a a.keep.length a_keep_c .i64 (k : Int) 3 1 ?_ ?_ ?_ ?_ (Rd.some ha_keep (by omega)) (by omega) (by omega) ?_)))))))
                        · as_aux_lemma => kernel_rfl
                        · as_aux_lemma => kernel_rfl
                        · as_aux_lemma => kernel_rfl
                        · as_aux_lemma => kernel_rfl
                        · as_aux_lemma => kernel_rfl
                        refine OPC (LOADE 3 (.tmp 56) 57 3 ?_ (Nat.le_of_ble_eq_true rfl) a_keep_a (k * 1) 0 [vi y12] (vi y12) ?_ (fun w hw => (ha_keep.fr hw.fr).flat hx_y12) ?_ ?_)
                        · as_aux_lemma => kernel_rfl
                        · as_aux_lemma => kernel_rfl
                        · as_aux_lemma => kernel_rfl
                        refine RUN0 1 [] [(1, .p 0 0), (4, I y12), (52, .v (.slice a_keep_a a.keep.length a_keep_c)), (53, I (a.keep.length : Int)), (54, I (k : Int))] ?_ rfl ?_
                        · as_aux_lemma => kernel_rfl
                        refine ENDOPS (NEXT (SEQ (REGION [0, 1, 2] rfl (RUN0 1 [1, 2] [(1, .p 0 0), (52, .v (.slice a_keep_a a.keep.length a_keep_c)), (53, I (a.keep.length : Int)), (54, I (k : Int)), (58, I y12)] ?_ rfl ?_))))
                        · as_aux_lemma => kernel_rfl
                        refine OPC (CALL 54 #[vi y12, vi 0, vi 20000] (some 59) ?_ [] [] _ rfl (RV (.bool (inB y12 0 20000))) (fun w hw => within_c w y12 0 20000) (by rintro _ ⟨⟩; exact Nat.le_of_ble_eq_true rfl) ?_)
                        · as_aux_lemma => kernel_rfl
                        rintro ⟨⟩
                        refine RUN0 1 [] [(1, .p 0 0), (52, .v (.slice a_keep_a a.keep.length a_keep_c)), (53, I (a.keep.length : Int)), (54, I (k : Int)), (60, B (!(inB y12 0 20000)))] ?_ rfl ?_
                        · as_aux_lemma => kernel_rfl
                        refine ENDOPS (NEXT (IF (!(inB y12 0 20000)) ?_ (fun bh14 => ?_) (fun bh14 => ?_)))
                        · as_aux_lemma => kernel_rfl
                        · -- !(inB y12 0 20000) = true
                          have h14 := bh14
                          have h14 := notT h14
                          refine SEQ (REGION [0] rfl (RUN0 1 [] [(2, B false)] ?_ rfl ?_))
                          · as_aux_lemma => kernel_rfl
                          refine ENDOPS (NEXT (RET (OUTR (PASS trivial (PASS trivial (OUTR (PASS trivial (OUTR (PASS trivial (FIN (.bool false) ?_ () ?_ [] ?_))))))))))
                          · as_aux_lemma => kernel_rfl
                          · (try simp [usedB] at *); simp_all [RV, actOk, noReq, reqEq, allKeep, usedB, List.length_pos_iff]
                          · rfl
                        · -- !(inB y12 0 20000) = false
                          have h14 := bh14
                          have h14 := notF h14
                          refine SKIP (OUTN (NEXT (REGION [0, 1] rfl (RUN0 1 [1] [(1, .p 0 0), (52, .v (.slice a_keep_a a.keep.length a_keep_c)), (53, I (a.keep.length : Int)), (61, I (wr ((k : Int) + 1)))] ?_ rfl ?_))))
                          · as_aux_lemma => kernel_rfl
                          refine CAST (d := 61) (vi (wr ((k : Int) + 1))) (vi ((k + 1 : Nat) : Int)) ?_ (vi_cast (by omega) (by omega)) ?_
                          · as_aux_lemma => kernel_rfl
                          refine RUN0 1 [] [(1, .p 0 0), (52, .v (.slice a_keep_a a.keep.length a_keep_c)), (53, I (a.keep.length : Int)), (54, I ((k + 1 : Nat) : Int))] ?_ rfl ?_
                          · as_aux_lemma => kernel_rfl
                          refine ENDOPS (BACK (k + 1, ys13) [1, 52, 53, 54] 1 [] _ ⟨hl_y12, hd_y12, hv0.trans (by simp [allKeep, *])⟩ (by simp) ?_ rfl rfl rfl)
                          · as_aux_lemma => kernel_rfl
                      · -- decide ((k : Int) < (a.keep.length : Int)) = false
                        have h11 := bh11
                        have h11 := of_decide_eq_false h11
                        obtain rfl := drop_nil hk (by omega)
                        refine EXIT (PASS trivial (PASS trivial (OUT (NEXT (SEQ (REGION [0, 1, 2, 3, 4] rfl (RUN0 5 [] [(2, B (decide ((a.keep.length : Int) ≤ 3)))] ?_ rfl ?_)))))))
                        · as_aux_lemma => kernel_rfl
                        refine ENDOPS (NEXT (RET (OUTR (PASS trivial (FIN (.bool (decide ((a.keep.length : Int) ≤ 3))) ?_ () ?_ [] ?_)))))
                        · as_aux_lemma => kernel_rfl
                        · (try simp [usedB] at *); simp_all [RV, actOk, noReq, reqEq, allKeep, usedB, List.length_pos_iff]
                        · rfl
                    · -- a.kind == 4 = false
                      have h10 := bh10
                      have h10 := ne_of_beq_false h10
                      refine SKIP (OUTN (NEXT (SEQ (REGION [0] rfl (RUN0 1 [] [(2, B false)] ?_ rfl ?_)))))
                      · as_aux_lemma => kernel_rfl
                      refine ENDOPS (NEXT (RET (FIN (.bool false) ?_ () ?_ [] ?_)))
                      · as_aux_lemma => kernel_rfl
                      · (try simp [usedB] at *); simp_all [RV, actOk, noReq, reqEq, allKeep, usedB, List.length_pos_iff]
                      · rfl
          · -- a.kind != 4 = false
            have h5 := bh5
            have h5 := bneF h5
            refine RUN0 6 [] [(1, .p 0 0), (34, B false)] ?_ rfl ?_
            · as_aux_lemma => kernel_rfl
            refine ENDOPS (NEXT (IFF ?_ ?_))
            · as_aux_lemma => kernel_rfl
            refine SKIP (NEXT (SEQ (SEQ (REGION [0, 1] rfl (RUN0 2 [] [(1, .p 0 0), (36, I a.kind)] ?_ rfl ?_)))))
            · as_aux_lemma => kernel_rfl
            refine ENDOPS (NEXT (BLOCK (SEQ (REGION [0, 1] rfl (RUN0 2 [] [(1, .p 0 0), (36, I a.kind), (37, B (a.kind == 1))] ?_ rfl ?_)))))
            · as_aux_lemma => kernel_rfl
            refine ENDOPS (NEXT (IF (a.kind == 1) ?_ (fun bh15 => ?_) (fun bh15 => ?_)))
            · as_aux_lemma => kernel_rfl
            · -- a.kind == 1 = true
              have h15 := bh15
              have h15 := eq_of_beq h15
              refine SEQ (REGION [0, 1, 2, 3] rfl (RUN0 2 [2, 3] [(40, .v (.agg #[vi a.req.kind, vi a.req.id, vi a.req.cabin, vi a.req.from', vi a.req.size, vi a.req.tier]))] ?_ rfl ?_))
              · as_aux_lemma => kernel_rfl
              refine OPC (CALL 39 #[.agg #[vi a.req.kind, vi a.req.id, vi a.req.cabin, vi a.req.from', vi a.req.size, vi a.req.tier]] (some 41) ?_ [] [] _ rfl (RV (.bool (reqOk a.req))) (fun w hw => iReqOk_c w a.req) (by rintro _ ⟨⟩; exact Nat.le_of_ble_eq_true rfl) ?_)
              · as_aux_lemma => kernel_rfl
              rintro ⟨⟩
              refine RUN0 1 [] [(2, B (reqOk a.req))] ?_ rfl ?_
              · as_aux_lemma => kernel_rfl
              refine ENDOPS (NEXT (RET (OUTR (PASS trivial (FIN (.bool (reqOk a.req)) ?_ () ?_ [] ?_)))))
              · as_aux_lemma => kernel_rfl
              · (try simp [usedB] at *); simp_all [RV, actOk, noReq, reqEq, allKeep, usedB, List.length_pos_iff]
              · rfl
            · -- a.kind == 1 = false
              have h15 := bh15
              have h15 := ne_of_beq_false h15
              refine SEQ (REGION [0, 1] rfl (RUN0 2 [] [(1, .p 0 0), (36, I a.kind), (42, B (a.kind == 2))] ?_ rfl ?_))
              · as_aux_lemma => kernel_rfl
              refine ENDOPS (NEXT (IF (a.kind == 2) ?_ (fun bh16 => ?_) (fun bh16 => ?_)))
              · as_aux_lemma => kernel_rfl
              · -- a.kind == 2 = true
                have h16 := bh16
                have h16 := eq_of_beq h16
                refine SEQ (REGION [0] rfl (RUN0 1 [] [(2, B true)] ?_ rfl ?_))
                · as_aux_lemma => kernel_rfl
                refine ENDOPS (NEXT (RET (OUTR (PASS trivial (FIN (.bool true) ?_ () ?_ [] ?_)))))
                · as_aux_lemma => kernel_rfl
                · (try simp [usedB] at *); simp_all [RV, actOk, noReq, reqEq, allKeep, usedB, List.length_pos_iff]
                · rfl
              · -- a.kind == 2 = false
                have h16 := bh16
                have h16 := ne_of_beq_false h16
                refine SEQ (REGION [0, 1] rfl (RUN0 2 [] [(1, .p 0 0), (36, I a.kind), (44, B (a.kind == 3))] ?_ rfl ?_))
                · as_aux_lemma => kernel_rfl
                refine ENDOPS (NEXT (IF (a.kind == 3) ?_ (fun bh17 => ?_) (fun bh17 => ?_)))
                · as_aux_lemma => kernel_rfl
                · -- a.kind == 3 = true
                  have h17 := bh17
                  have h17 := eq_of_beq h17
                  refine SEQ (REGION [0, 1, 2, 3] rfl (RUN0 2 [2, 3] [(47, I a.n)] ?_ rfl ?_))
                  · as_aux_lemma => kernel_rfl
                  refine OPC (CALL 54 #[vi a.n, vi 0, vi 9999] (some 48) ?_ [] [] _ rfl (RV (.bool (inB a.n 0 9999))) (fun w hw => within_c w a.n 0 9999) (by rintro _ ⟨⟩; exact Nat.le_of_ble_eq_true rfl) ?_)
                  · as_aux_lemma => kernel_rfl
                  rintro ⟨⟩
                  refine RUN0 1 [] [(2, B (inB a.n 0 9999))] ?_ rfl ?_
                  · as_aux_lemma => kernel_rfl
                  refine ENDOPS (NEXT (RET (OUTR (PASS trivial (FIN (.bool (inB a.n 0 9999)) ?_ () ?_ [] ?_)))))
                  · as_aux_lemma => kernel_rfl
                  · (try simp [usedB] at *); simp_all [RV, actOk, noReq, reqEq, allKeep, usedB, List.length_pos_iff]
                  · rfl
                · -- a.kind == 3 = false
                  have h17 := bh17
                  have h17 := ne_of_beq_false h17
                  refine SEQ (REGION [0, 1] rfl (RUN0 2 [] [(1, .p 0 0), (49, B (a.kind == 4))] ?_ rfl ?_))
                  · as_aux_lemma => kernel_rfl
                  refine ENDOPS (NEXT (IF (a.kind == 4) ?_ (fun bh18 => ?_) (fun bh18 => ?_)))
                  · as_aux_lemma => kernel_rfl
                  · -- a.kind == 4 = true
                    have h18 := bh18
                    have h18 := eq_of_beq h18
                    refine SEQ (SEQ (REGION [0, 1, 2, 3] rfl (RUN0 4 [] [(1, .p 0 0), (52, .v (.slice a_keep_a a.keep.length a_keep_c)), (53, I (a.keep.length : Int)), (54, I 0)] ?_ rfl ?_)))
                    · as_aux_lemma => kernel_rfl
                    refine ENDOPS (NEXT (BLOCK (LOOP (ι := Nat × (List Int)) (fun j => [(1, .p 0 0), (52, .v (.slice a_keep_a a.keep.length a_keep_c)), (53, I (a.keep.length : Int)), (54, I (j.1 : Int))]) (fun j => [(49, [vi a.kind, vi a.req.kind, vi a.req.id, vi a.req.cabin, vi a.req.from', vi a.req.size, vi a.req.tier, vi a.n, .slice a_keep_a a.keep.length a_keep_c])]) (fun j => []) (fun j => j.1 + j.2.length = a.keep.length ∧ a.keep.drop j.1 = j.2 ∧ allKeep a.keep = allKeep j.2) (fun j => j.2.length) (0, a.keep) [1, 52, 53, 54] ⟨by simp, rfl, rfl⟩ ?_ rfl rfl ?_)))
                    · as_aux_lemma => kernel_rfl
                    rintro ⟨k, ys⟩ ⟨hk, hd, hv0⟩
                    dsimp only at hk hd hv0
                    refine SEQ (REGION [0] rfl (RUN0 1 [] [(1, .p 0 0), (52, .v (.slice a_keep_a a.keep.length a_keep_c)), (53, I (a.keep.length : Int)), (54, I (k : Int)), (55, B (decide ((k : Int) < (a.keep.length : Int))))] ?_ rfl ?_))
                    · as_aux_lemma => kernel_rfl
                    refine ENDOPS (NEXT (SEQ (IF (decide ((k : Int) < (a.keep.length : Int))) ?_ (fun bh19 => ?_) (fun bh19 => ?_))))
                    · as_aux_lemma => kernel_rfl
                    · -- decide ((k : Int) < (a.keep.length : Int)) = true
                      have h19 := bh19
                      have h19 := of_decide_eq_true h19
                      obtain ⟨y20, ys21, rfl, hx_y20, hd_y20, hl_y20⟩ := drop_cons hd hk (by omega)
                      refine SKIP (NEXT (SEQ (BLOCK (SEQ (REGION [0, 1, 2] rfl (OPC (INDEX 22 (.tmp 52) (.tmp 54) 56 0 ?_ (Nat.le_of_ble_eq_true rfl) a_keep_a a.keep.length a_keep_c .i64 (k : Int) 3 1 ?_ ?_ ?_ ?_ (Rd.some ha_keep (by omega)) (by omega) (by omega) ?_)))))))
                      · as_aux_lemma => kernel_rfl
                      · as_aux_lemma => kernel_rfl
                      · as_aux_lemma => kernel_rfl
                      · as_aux_lemma => kernel_rfl
                      · as_aux_lemma => kernel_rfl
                      refine OPC (LOADE 3 (.tmp 56) 57 3 ?_ (Nat.le_of_ble_eq_true rfl) a_keep_a (k * 1) 0 [vi y20] (vi y20) ?_ (fun w hw => (ha_keep.fr hw.fr).flat hx_y20) ?_ ?_)
                      · as_aux_lemma => kernel_rfl
                      · as_aux_lemma => kernel_rfl
                      · as_aux_lemma => kernel_rfl
                      refine RUN0 1 [] [(1, .p 0 0), (4, I y20), (52, .v (.slice a_keep_a a.keep.length a_keep_c)), (53, I (a.keep.length : Int)), (54, I (k : Int))] ?_ rfl ?_
                      · as_aux_lemma => kernel_rfl
                      refine ENDOPS (NEXT (SEQ (REGION [0, 1, 2] rfl (RUN0 1 [1, 2] [(1, .p 0 0), (52, .v (.slice a_keep_a a.keep.length a_keep_c)), (53, I (a.keep.length : Int)), (54, I (k : Int)), (58, I y20)] ?_ rfl ?_))))
                      · as_aux_lemma => kernel_rfl
                      refine OPC (CALL 54 #[vi y20, vi 0, vi 20000] (some 59) ?_ [] [] _ rfl (RV (.bool (inB y20 0 20000))) (fun w hw => within_c w y20 0 20000) (by rintro _ ⟨⟩; exact Nat.le_of_ble_eq_true rfl) ?_)
                      · as_aux_lemma => kernel_rfl
                      rintro ⟨⟩
                      refine RUN0 1 [] [(1, .p 0 0), (52, .v (.slice a_keep_a a.keep.length a_keep_c)), (53, I (a.keep.length : Int)), (54, I (k : Int)), (60, B (!(inB y20 0 20000)))] ?_ rfl ?_
                      · as_aux_lemma => kernel_rfl
                      refine ENDOPS (NEXT (IF (!(inB y20 0 20000)) ?_ (fun bh22 => ?_) (fun bh22 => ?_)))
                      · as_aux_lemma => kernel_rfl
                      · -- !(inB y20 0 20000) = true
                        have h22 := bh22
                        have h22 := notT h22
                        refine SEQ (REGION [0] rfl (RUN0 1 [] [(2, B false)] ?_ rfl ?_))
                        · as_aux_lemma => kernel_rfl
                        refine ENDOPS (NEXT (RET (OUTR (PASS trivial (PASS trivial (OUTR (PASS trivial (OUTR (PASS trivial (FIN (.bool false) ?_ () ?_ [] ?_))))))))))
                        · as_aux_lemma => kernel_rfl
                        · (try simp [usedB] at *); simp_all [RV, actOk, noReq, reqEq, allKeep, usedB, List.length_pos_iff]
                        · rfl
                      · -- !(inB y20 0 20000) = false
                        have h22 := bh22
                        have h22 := notF h22
                        refine SKIP (OUTN (NEXT (REGION [0, 1] rfl (RUN0 1 [1] [(1, .p 0 0), (52, .v (.slice a_keep_a a.keep.length a_keep_c)), (53, I (a.keep.length : Int)), (61, I (wr ((k : Int) + 1)))] ?_ rfl ?_))))
                        · as_aux_lemma => kernel_rfl
                        refine CAST (d := 61) (vi (wr ((k : Int) + 1))) (vi ((k + 1 : Nat) : Int)) ?_ (vi_cast (by omega) (by omega)) ?_
                        · as_aux_lemma => kernel_rfl
                        refine RUN0 1 [] [(1, .p 0 0), (52, .v (.slice a_keep_a a.keep.length a_keep_c)), (53, I (a.keep.length : Int)), (54, I ((k + 1 : Nat) : Int))] ?_ rfl ?_
                        · as_aux_lemma => kernel_rfl
                        refine ENDOPS (BACK (k + 1, ys21) [1, 52, 53, 54] 1 [] _ ⟨hl_y20, hd_y20, hv0.trans (by simp [allKeep, *])⟩ (by simp) ?_ rfl rfl rfl)
                        · as_aux_lemma => kernel_rfl
                    · -- decide ((k : Int) < (a.keep.length : Int)) = false
                      have h19 := bh19
                      have h19 := of_decide_eq_false h19
                      obtain rfl := drop_nil hk (by omega)
                      refine EXIT (PASS trivial (PASS trivial (OUT (NEXT (SEQ (REGION [0, 1, 2, 3, 4] rfl (RUN0 5 [] [(2, B (decide ((a.keep.length : Int) ≤ 3)))] ?_ rfl ?_)))))))
                      · as_aux_lemma => kernel_rfl
                      refine ENDOPS (NEXT (RET (OUTR (PASS trivial (FIN (.bool (decide ((a.keep.length : Int) ≤ 3))) ?_ () ?_ [] ?_)))))
                      · as_aux_lemma => kernel_rfl
                      · (try simp [usedB] at *); simp_all [RV, actOk, noReq, reqEq, allKeep, usedB, List.length_pos_iff]
                      · rfl
                  · -- a.kind == 4 = false
                    have h18 := bh18
                    have h18 := ne_of_beq_false h18
                    refine SKIP (OUTN (NEXT (SEQ (REGION [0] rfl (RUN0 1 [] [(2, B false)] ?_ rfl ?_)))))
                    · as_aux_lemma => kernel_rfl
                    refine ENDOPS (NEXT (RET (FIN (.bool false) ?_ () ?_ [] ?_)))
                    · as_aux_lemma => kernel_rfl
                    · (try simp [usedB] at *); simp_all [RV, actOk, noReq, reqEq, allKeep, usedB, List.length_pos_iff]
                    · rfl
      · -- a.kind != 3 = false
        have h3 := bh3
        have h3 := bneF h3
        refine RUN0 10 [24, 25, 26, 27, 28, 29] [(1, .p 0 0), (24, B false), (28, B (a.kind != 4))] ?_ rfl ?_
        · as_aux_lemma => kernel_rfl
        refine SPLIT (d := 28) (a.kind != 4) ?_ (fun bh23 => ?_) (fun bh23 => ?_)
        · as_aux_lemma => kernel_rfl
        · -- a.kind != 4 = true
          have h23 := bh23
          have h23 := bne_iff_ne.1 h23
          refine RUN0 6 [] [(1, .p 0 0), (34, B (decide ((a.keep.length : Int) > 0)))] ?_ rfl ?_
          · as_aux_lemma => kernel_rfl
          refine ENDOPS (NEXT (IF (decide ((a.keep.length : Int) > 0)) ?_ (fun bh24 => ?_) (fun bh24 => ?_)))
          · as_aux_lemma => kernel_rfl
          · -- decide ((a.keep.length : Int) > 0) = true
            have h24 := bh24
            have h24 := of_decide_eq_true h24
            refine SEQ (REGION [0] rfl (RUN0 1 [] [(2, B false)] ?_ rfl ?_))
            · as_aux_lemma => kernel_rfl
            refine ENDOPS (NEXT (RET (PASS trivial (FIN (.bool false) ?_ () ?_ [] ?_))))
            · as_aux_lemma => kernel_rfl
            · (try simp [usedB] at *); simp_all [RV, actOk, noReq, reqEq, allKeep, usedB, List.length_pos_iff]
            · rfl
          · -- decide ((a.keep.length : Int) > 0) = false
            have h24 := bh24
            have h24 := of_decide_eq_false h24
            refine SKIP (NEXT (SEQ (SEQ (REGION [0, 1] rfl (RUN0 2 [] [(1, .p 0 0), (36, I a.kind)] ?_ rfl ?_)))))
            · as_aux_lemma => kernel_rfl
            refine ENDOPS (NEXT (BLOCK (SEQ (REGION [0, 1] rfl (RUN0 2 [] [(1, .p 0 0), (36, I a.kind), (37, B (a.kind == 1))] ?_ rfl ?_)))))
            · as_aux_lemma => kernel_rfl
            refine ENDOPS (NEXT (IF (a.kind == 1) ?_ (fun bh25 => ?_) (fun bh25 => ?_)))
            · as_aux_lemma => kernel_rfl
            · -- a.kind == 1 = true
              have h25 := bh25
              have h25 := eq_of_beq h25
              refine SEQ (REGION [0, 1, 2, 3] rfl (RUN0 2 [2, 3] [(40, .v (.agg #[vi a.req.kind, vi a.req.id, vi a.req.cabin, vi a.req.from', vi a.req.size, vi a.req.tier]))] ?_ rfl ?_))
              · as_aux_lemma => kernel_rfl
              refine OPC (CALL 39 #[.agg #[vi a.req.kind, vi a.req.id, vi a.req.cabin, vi a.req.from', vi a.req.size, vi a.req.tier]] (some 41) ?_ [] [] _ rfl (RV (.bool (reqOk a.req))) (fun w hw => iReqOk_c w a.req) (by rintro _ ⟨⟩; exact Nat.le_of_ble_eq_true rfl) ?_)
              · as_aux_lemma => kernel_rfl
              rintro ⟨⟩
              refine RUN0 1 [] [(2, B (reqOk a.req))] ?_ rfl ?_
              · as_aux_lemma => kernel_rfl
              refine ENDOPS (NEXT (RET (OUTR (PASS trivial (FIN (.bool (reqOk a.req)) ?_ () ?_ [] ?_)))))
              · as_aux_lemma => kernel_rfl
              · (try simp [usedB] at *); simp_all [RV, actOk, noReq, reqEq, allKeep, usedB, List.length_pos_iff]
              · rfl
            · -- a.kind == 1 = false
              have h25 := bh25
              have h25 := ne_of_beq_false h25
              refine SEQ (REGION [0, 1] rfl (RUN0 2 [] [(1, .p 0 0), (36, I a.kind), (42, B (a.kind == 2))] ?_ rfl ?_))
              · as_aux_lemma => kernel_rfl
              refine ENDOPS (NEXT (IF (a.kind == 2) ?_ (fun bh26 => ?_) (fun bh26 => ?_)))
              · as_aux_lemma => kernel_rfl
              · -- a.kind == 2 = true
                have h26 := bh26
                have h26 := eq_of_beq h26
                refine SEQ (REGION [0] rfl (RUN0 1 [] [(2, B true)] ?_ rfl ?_))
                · as_aux_lemma => kernel_rfl
                refine ENDOPS (NEXT (RET (OUTR (PASS trivial (FIN (.bool true) ?_ () ?_ [] ?_)))))
                · as_aux_lemma => kernel_rfl
                · (try simp [usedB] at *); simp_all [RV, actOk, noReq, reqEq, allKeep, usedB, List.length_pos_iff]
                · rfl
              · -- a.kind == 2 = false
                have h26 := bh26
                have h26 := ne_of_beq_false h26
                refine SEQ (REGION [0, 1] rfl (RUN0 2 [] [(1, .p 0 0), (36, I a.kind), (44, B (a.kind == 3))] ?_ rfl ?_))
                · as_aux_lemma => kernel_rfl
                refine ENDOPS (NEXT (IF (a.kind == 3) ?_ (fun bh27 => ?_) (fun bh27 => ?_)))
                · as_aux_lemma => kernel_rfl
                · -- a.kind == 3 = true
                  have h27 := bh27
                  have h27 := eq_of_beq h27
                  refine SEQ (REGION [0, 1, 2, 3] rfl (RUN0 2 [2, 3] [(47, I a.n)] ?_ rfl ?_))
                  · as_aux_lemma => kernel_rfl
                  refine OPC (CALL 54 #[vi a.n, vi 0, vi 9999] (some 48) ?_ [] [] _ rfl (RV (.bool (inB a.n 0 9999))) (fun w hw => within_c w a.n 0 9999) (by rintro _ ⟨⟩; exact Nat.le_of_ble_eq_true rfl) ?_)
                  · as_aux_lemma => kernel_rfl
                  rintro ⟨⟩
                  refine RUN0 1 [] [(2, B (inB a.n 0 9999))] ?_ rfl ?_
                  · as_aux_lemma => kernel_rfl
                  refine ENDOPS (NEXT (RET (OUTR (PASS trivial (FIN (.bool (inB a.n 0 9999)) ?_ () ?_ [] ?_)))))
                  · as_aux_lemma => kernel_rfl
                  · (try simp [usedB] at *); simp_all [RV, actOk, noReq, reqEq, allKeep, usedB, List.length_pos_iff]
                  · rfl
                · -- a.kind == 3 = false
                  have h27 := bh27
                  have h27 := ne_of_beq_false h27
                  refine SEQ (REGION [0, 1] rfl (RUN0 2 [] [(1, .p 0 0), (49, B (a.kind == 4))] ?_ rfl ?_))
                  · as_aux_lemma => kernel_rfl
                  refine ENDOPS (NEXT (IF (a.kind == 4) ?_ (fun bh28 => ?_) (fun bh28 => ?_)))
                  · as_aux_lemma => kernel_rfl
                  · -- a.kind == 4 = true
                    have h28 := bh28
                    have h28 := eq_of_beq h28
                    refine SEQ (SEQ (REGION [0, 1, 2, 3] rfl (RUN0 4 [] [(1, .p 0 0), (52, .v (.slice a_keep_a a.keep.length a_keep_c)), (53, I (a.keep.length : Int)), (54, I 0)] ?_ rfl ?_)))
                    · as_aux_lemma => kernel_rfl
                    refine ENDOPS (NEXT (BLOCK (LOOP (ι := Nat × (List Int)) (fun j => [(1, .p 0 0), (52, .v (.slice a_keep_a a.keep.length a_keep_c)), (53, I (a.keep.length : Int)), (54, I (j.1 : Int))]) (fun j => [(49, [vi a.kind, vi a.req.kind, vi a.req.id, vi a.req.cabin, vi a.req.from', vi a.req.size, vi a.req.tier, vi a.n, .slice a_keep_a a.keep.length a_keep_c])]) (fun j => []) (fun j => j.1 + j.2.length = a.keep.length ∧ a.keep.drop j.1 = j.2 ∧ allKeep a.keep = allKeep j.2) (fun j => j.2.length) (0, a.keep) [1, 52, 53, 54] ⟨by simp, rfl, rfl⟩ ?_ rfl rfl ?_)))
                    · as_aux_lemma => kernel_rfl
                    rintro ⟨k, ys⟩ ⟨hk, hd, hv0⟩
                    dsimp only at hk hd hv0
                    refine SEQ (REGION [0] rfl (RUN0 1 [] [(1, .p 0 0), (52, .v (.slice a_keep_a a.keep.length a_keep_c)), (53, I (a.keep.length : Int)), (54, I (k : Int)), (55, B (decide ((k : Int) < (a.keep.length : Int))))] ?_ rfl ?_))
                    · as_aux_lemma => kernel_rfl
                    refine ENDOPS (NEXT (SEQ (IF (decide ((k : Int) < (a.keep.length : Int))) ?_ (fun bh29 => ?_) (fun bh29 => ?_))))
                    · as_aux_lemma => kernel_rfl
                    · -- decide ((k : Int) < (a.keep.length : Int)) = true
                      have h29 := bh29
                      have h29 := of_decide_eq_true h29
                      obtain ⟨y30, ys31, rfl, hx_y30, hd_y30, hl_y30⟩ := drop_cons hd hk (by omega)
                      refine SKIP (NEXT (SEQ (BLOCK (SEQ (REGION [0, 1, 2] rfl (OPC (INDEX 22 (.tmp 52) (.tmp 54) 56 0 ?_ (Nat.le_of_ble_eq_true rfl) a_keep_a a.keep.length a_keep_c .i64 (k : Int) 3 1 ?_ ?_ ?_ ?_ (Rd.some ha_keep (by omega)) (by omega) (by omega) ?_)))))))
                      · as_aux_lemma => kernel_rfl
                      · as_aux_lemma => kernel_rfl
                      · as_aux_lemma => kernel_rfl
                      · as_aux_lemma => kernel_rfl
                      · as_aux_lemma => kernel_rfl
                      refine OPC (LOADE 3 (.tmp 56) 57 3 ?_ (Nat.le_of_ble_eq_true rfl) a_keep_a (k * 1) 0 [vi y30] (vi y30) ?_ (fun w hw => (ha_keep.fr hw.fr).flat hx_y30) ?_ ?_)
                      · as_aux_lemma => kernel_rfl
                      · as_aux_lemma => kernel_rfl
                      · as_aux_lemma => kernel_rfl
                      refine RUN0 1 [] [(1, .p 0 0), (4, I y30), (52, .v (.slice a_keep_a a.keep.length a_keep_c)), (53, I (a.keep.length : Int)), (54, I (k : Int))] ?_ rfl ?_
                      · as_aux_lemma => kernel_rfl
                      refine ENDOPS (NEXT (SEQ (REGION [0, 1, 2] rfl (RUN0 1 [1, 2] [(1, .p 0 0), (52, .v (.slice a_keep_a a.keep.length a_keep_c)), (53, I (a.keep.length : Int)), (54, I (k : Int)), (58, I y30)] ?_ rfl ?_))))
                      · as_aux_lemma => kernel_rfl
                      refine OPC (CALL 54 #[vi y30, vi 0, vi 20000] (some 59) ?_ [] [] _ rfl (RV (.bool (inB y30 0 20000))) (fun w hw => within_c w y30 0 20000) (by rintro _ ⟨⟩; exact Nat.le_of_ble_eq_true rfl) ?_)
                      · as_aux_lemma => kernel_rfl
                      rintro ⟨⟩
                      refine RUN0 1 [] [(1, .p 0 0), (52, .v (.slice a_keep_a a.keep.length a_keep_c)), (53, I (a.keep.length : Int)), (54, I (k : Int)), (60, B (!(inB y30 0 20000)))] ?_ rfl ?_
                      · as_aux_lemma => kernel_rfl
                      refine ENDOPS (NEXT (IF (!(inB y30 0 20000)) ?_ (fun bh32 => ?_) (fun bh32 => ?_)))
                      · as_aux_lemma => kernel_rfl
                      · -- !(inB y30 0 20000) = true
                        have h32 := bh32
                        have h32 := notT h32
                        refine SEQ (REGION [0] rfl (RUN0 1 [] [(2, B false)] ?_ rfl ?_))
                        · as_aux_lemma => kernel_rfl
                        refine ENDOPS (NEXT (RET (OUTR (PASS trivial (PASS trivial (OUTR (PASS trivial (OUTR (PASS trivial (FIN (.bool false) ?_ () ?_ [] ?_))))))))))
                        · as_aux_lemma => kernel_rfl
                        · (try simp [usedB] at *); simp_all [RV, actOk, noReq, reqEq, allKeep, usedB, List.length_pos_iff]
                        · rfl
                      · -- !(inB y30 0 20000) = false
                        have h32 := bh32
                        have h32 := notF h32
                        refine SKIP (OUTN (NEXT (REGION [0, 1] rfl (RUN0 1 [1] [(1, .p 0 0), (52, .v (.slice a_keep_a a.keep.length a_keep_c)), (53, I (a.keep.length : Int)), (61, I (wr ((k : Int) + 1)))] ?_ rfl ?_))))
                        · as_aux_lemma => kernel_rfl
                        refine CAST (d := 61) (vi (wr ((k : Int) + 1))) (vi ((k + 1 : Nat) : Int)) ?_ (vi_cast (by omega) (by omega)) ?_
                        · as_aux_lemma => kernel_rfl
                        refine RUN0 1 [] [(1, .p 0 0), (52, .v (.slice a_keep_a a.keep.length a_keep_c)), (53, I (a.keep.length : Int)), (54, I ((k + 1 : Nat) : Int))] ?_ rfl ?_
                        · as_aux_lemma => kernel_rfl
                        refine ENDOPS (BACK (k + 1, ys31) [1, 52, 53, 54] 1 [] _ ⟨hl_y30, hd_y30, hv0.trans (by simp [allKeep, *])⟩ (by simp) ?_ rfl rfl rfl)
                        · as_aux_lemma => kernel_rfl
                    · -- decide ((k : Int) < (a.keep.length : Int)) = false
                      have h29 := bh29
                      have h29 := of_decide_eq_false h29
                      obtain rfl := drop_nil hk (by omega)
                      refine EXIT (PASS trivial (PASS trivial (OUT (NEXT (SEQ (REGION [0, 1, 2, 3, 4] rfl (RUN0 5 [] [(2, B (decide ((a.keep.length : Int) ≤ 3)))] ?_ rfl ?_)))))))
                      · as_aux_lemma => kernel_rfl
                      refine ENDOPS (NEXT (RET (OUTR (PASS trivial (FIN (.bool (decide ((a.keep.length : Int) ≤ 3))) ?_ () ?_ [] ?_)))))
                      · as_aux_lemma => kernel_rfl
                      · (try simp [usedB] at *); simp_all [RV, actOk, noReq, reqEq, allKeep, usedB, List.length_pos_iff]
                      · rfl
                  · -- a.kind == 4 = false
                    have h28 := bh28
                    have h28 := ne_of_beq_false h28
                    refine SKIP (OUTN (NEXT (SEQ (REGION [0] rfl (RUN0 1 [] [(2, B false)] ?_ rfl ?_)))))
                    · as_aux_lemma => kernel_rfl
                    refine ENDOPS (NEXT (RET (FIN (.bool false) ?_ () ?_ [] ?_)))
                    · as_aux_lemma => kernel_rfl
                    · (try simp [usedB] at *); simp_all [RV, actOk, noReq, reqEq, allKeep, usedB, List.length_pos_iff]
                    · rfl
        · -- a.kind != 4 = false
          have h23 := bh23
          have h23 := bneF h23
          refine RUN0 6 [] [(1, .p 0 0), (34, B false)] ?_ rfl ?_
          · as_aux_lemma => kernel_rfl
          refine ENDOPS (NEXT (IFF ?_ ?_))
          · as_aux_lemma => kernel_rfl
          refine SKIP (NEXT (SEQ (SEQ (REGION [0, 1] rfl (RUN0 2 [] [(1, .p 0 0), (36, I a.kind)] ?_ rfl ?_)))))
          · as_aux_lemma => kernel_rfl
          refine ENDOPS (NEXT (BLOCK (SEQ (REGION [0, 1] rfl (RUN0 2 [] [(1, .p 0 0), (36, I a.kind), (37, B (a.kind == 1))] ?_ rfl ?_)))))
          · as_aux_lemma => kernel_rfl
          refine ENDOPS (NEXT (IF (a.kind == 1) ?_ (fun bh33 => ?_) (fun bh33 => ?_)))
          · as_aux_lemma => kernel_rfl
          · -- a.kind == 1 = true
            have h33 := bh33
            have h33 := eq_of_beq h33
            refine SEQ (REGION [0, 1, 2, 3] rfl (RUN0 2 [2, 3] [(40, .v (.agg #[vi a.req.kind, vi a.req.id, vi a.req.cabin, vi a.req.from', vi a.req.size, vi a.req.tier]))] ?_ rfl ?_))
            · as_aux_lemma => kernel_rfl
            refine OPC (CALL 39 #[.agg #[vi a.req.kind, vi a.req.id, vi a.req.cabin, vi a.req.from', vi a.req.size, vi a.req.tier]] (some 41) ?_ [] [] _ rfl (RV (.bool (reqOk a.req))) (fun w hw => iReqOk_c w a.req) (by rintro _ ⟨⟩; exact Nat.le_of_ble_eq_true rfl) ?_)
            · as_aux_lemma => kernel_rfl
            rintro ⟨⟩
            refine RUN0 1 [] [(2, B (reqOk a.req))] ?_ rfl ?_
            · as_aux_lemma => kernel_rfl
            refine ENDOPS (NEXT (RET (OUTR (PASS trivial (FIN (.bool (reqOk a.req)) ?_ () ?_ [] ?_)))))
            · as_aux_lemma => kernel_rfl
            · (try simp [usedB] at *); simp_all [RV, actOk, noReq, reqEq, allKeep, usedB, List.length_pos_iff]
            · rfl
          · -- a.kind == 1 = false
            have h33 := bh33
            have h33 := ne_of_beq_false h33
            refine SEQ (REGION [0, 1] rfl (RUN0 2 [] [(1, .p 0 0), (36, I a.kind), (42, B (a.kind == 2))] ?_ rfl ?_))
            · as_aux_lemma => kernel_rfl
            refine ENDOPS (NEXT (IF (a.kind == 2) ?_ (fun bh34 => ?_) (fun bh34 => ?_)))
            · as_aux_lemma => kernel_rfl
            · -- a.kind == 2 = true
              have h34 := bh34
              have h34 := eq_of_beq h34
              refine SEQ (REGION [0] rfl (RUN0 1 [] [(2, B true)] ?_ rfl ?_))
              · as_aux_lemma => kernel_rfl
              refine ENDOPS (NEXT (RET (OUTR (PASS trivial (FIN (.bool true) ?_ () ?_ [] ?_)))))
              · as_aux_lemma => kernel_rfl
              · (try simp [usedB] at *); simp_all [RV, actOk, noReq, reqEq, allKeep, usedB, List.length_pos_iff]
              · rfl
            · -- a.kind == 2 = false
              have h34 := bh34
              have h34 := ne_of_beq_false h34
              refine SEQ (REGION [0, 1] rfl (RUN0 2 [] [(1, .p 0 0), (36, I a.kind), (44, B (a.kind == 3))] ?_ rfl ?_))
              · as_aux_lemma => kernel_rfl
              refine ENDOPS (NEXT (IF (a.kind == 3) ?_ (fun bh35 => ?_) (fun bh35 => ?_)))
              · as_aux_lemma => kernel_rfl
              · -- a.kind == 3 = true
                have h35 := bh35
                have h35 := eq_of_beq h35
                refine SEQ (REGION [0, 1, 2, 3] rfl (RUN0 2 [2, 3] [(47, I a.n)] ?_ rfl ?_))
                · as_aux_lemma => kernel_rfl
                refine OPC (CALL 54 #[vi a.n, vi 0, vi 9999] (some 48) ?_ [] [] _ rfl (RV (.bool (inB a.n 0 9999))) (fun w hw => within_c w a.n 0 9999) (by rintro _ ⟨⟩; exact Nat.le_of_ble_eq_true rfl) ?_)
                · as_aux_lemma => kernel_rfl
                rintro ⟨⟩
                refine RUN0 1 [] [(2, B (inB a.n 0 9999))] ?_ rfl ?_
                · as_aux_lemma => kernel_rfl
                refine ENDOPS (NEXT (RET (OUTR (PASS trivial (FIN (.bool (inB a.n 0 9999)) ?_ () ?_ [] ?_)))))
                · as_aux_lemma => kernel_rfl
                · (try simp [usedB] at *); simp_all [RV, actOk, noReq, reqEq, allKeep, usedB, List.length_pos_iff]
                · rfl
              · -- a.kind == 3 = false
                have h35 := bh35
                have h35 := ne_of_beq_false h35
                refine SEQ (REGION [0, 1] rfl (RUN0 2 [] [(1, .p 0 0), (49, B (a.kind == 4))] ?_ rfl ?_))
                · as_aux_lemma => kernel_rfl
                refine ENDOPS (NEXT (IF (a.kind == 4) ?_ (fun bh36 => ?_) (fun bh36 => ?_)))
                · as_aux_lemma => kernel_rfl
                · -- a.kind == 4 = true
                  have h36 := bh36
                  have h36 := eq_of_beq h36
                  refine SEQ (SEQ (REGION [0, 1, 2, 3] rfl (RUN0 4 [] [(1, .p 0 0), (52, .v (.slice a_keep_a a.keep.length a_keep_c)), (53, I (a.keep.length : Int)), (54, I 0)] ?_ rfl ?_)))
                  · as_aux_lemma => kernel_rfl
                  refine ENDOPS (NEXT (BLOCK (LOOP (ι := Nat × (List Int)) (fun j => [(1, .p 0 0), (52, .v (.slice a_keep_a a.keep.length a_keep_c)), (53, I (a.keep.length : Int)), (54, I (j.1 : Int))]) (fun j => [(49, [vi a.kind, vi a.req.kind, vi a.req.id, vi a.req.cabin, vi a.req.from', vi a.req.size, vi a.req.tier, vi a.n, .slice a_keep_a a.keep.length a_keep_c])]) (fun j => []) (fun j => j.1 + j.2.length = a.keep.length ∧ a.keep.drop j.1 = j.2 ∧ allKeep a.keep = allKeep j.2) (fun j => j.2.length) (0, a.keep) [1, 52, 53, 54] ⟨by simp, rfl, rfl⟩ ?_ rfl rfl ?_)))
                  · as_aux_lemma => kernel_rfl
                  rintro ⟨k, ys⟩ ⟨hk, hd, hv0⟩
                  dsimp only at hk hd hv0
                  refine SEQ (REGION [0] rfl (RUN0 1 [] [(1, .p 0 0), (52, .v (.slice a_keep_a a.keep.length a_keep_c)), (53, I (a.keep.length : Int)), (54, I (k : Int)), (55, B (decide ((k : Int) < (a.keep.length : Int))))] ?_ rfl ?_))
                  · as_aux_lemma => kernel_rfl
                  refine ENDOPS (NEXT (SEQ (IF (decide ((k : Int) < (a.keep.length : Int))) ?_ (fun bh37 => ?_) (fun bh37 => ?_))))
                  · as_aux_lemma => kernel_rfl
                  · -- decide ((k : Int) < (a.keep.length : Int)) = true
                    have h37 := bh37
                    have h37 := of_decide_eq_true h37
                    obtain ⟨y38, ys39, rfl, hx_y38, hd_y38, hl_y38⟩ := drop_cons hd hk (by omega)
                    refine SKIP (NEXT (SEQ (BLOCK (SEQ (REGION [0, 1, 2] rfl (OPC (INDEX 22 (.tmp 52) (.tmp 54) 56 0 ?_ (Nat.le_of_ble_eq_true rfl) a_keep_a a.keep.length a_keep_c .i64 (k : Int) 3 1 ?_ ?_ ?_ ?_ (Rd.some ha_keep (by omega)) (by omega) (by omega) ?_)))))))
                    · as_aux_lemma => kernel_rfl
                    · as_aux_lemma => kernel_rfl
                    · as_aux_lemma => kernel_rfl
                    · as_aux_lemma => kernel_rfl
                    · as_aux_lemma => kernel_rfl
                    refine OPC (LOADE 3 (.tmp 56) 57 3 ?_ (Nat.le_of_ble_eq_true rfl) a_keep_a (k * 1) 0 [vi y38] (vi y38) ?_ (fun w hw => (ha_keep.fr hw.fr).flat hx_y38) ?_ ?_)
                    · as_aux_lemma => kernel_rfl
                    · as_aux_lemma => kernel_rfl
                    · as_aux_lemma => kernel_rfl
                    refine RUN0 1 [] [(1, .p 0 0), (4, I y38), (52, .v (.slice a_keep_a a.keep.length a_keep_c)), (53, I (a.keep.length : Int)), (54, I (k : Int))] ?_ rfl ?_
                    · as_aux_lemma => kernel_rfl
                    refine ENDOPS (NEXT (SEQ (REGION [0, 1, 2] rfl (RUN0 1 [1, 2] [(1, .p 0 0), (52, .v (.slice a_keep_a a.keep.length a_keep_c)), (53, I (a.keep.length : Int)), (54, I (k : Int)), (58, I y38)] ?_ rfl ?_))))
                    · as_aux_lemma => kernel_rfl
                    refine OPC (CALL 54 #[vi y38, vi 0, vi 20000] (some 59) ?_ [] [] _ rfl (RV (.bool (inB y38 0 20000))) (fun w hw => within_c w y38 0 20000) (by rintro _ ⟨⟩; exact Nat.le_of_ble_eq_true rfl) ?_)
                    · as_aux_lemma => kernel_rfl
                    rintro ⟨⟩
                    refine RUN0 1 [] [(1, .p 0 0), (52, .v (.slice a_keep_a a.keep.length a_keep_c)), (53, I (a.keep.length : Int)), (54, I (k : Int)), (60, B (!(inB y38 0 20000)))] ?_ rfl ?_
                    · as_aux_lemma => kernel_rfl
                    refine ENDOPS (NEXT (IF (!(inB y38 0 20000)) ?_ (fun bh40 => ?_) (fun bh40 => ?_)))
                    · as_aux_lemma => kernel_rfl
                    · -- !(inB y38 0 20000) = true
                      have h40 := bh40
                      have h40 := notT h40
                      refine SEQ (REGION [0] rfl (RUN0 1 [] [(2, B false)] ?_ rfl ?_))
                      · as_aux_lemma => kernel_rfl
                      refine ENDOPS (NEXT (RET (OUTR (PASS trivial (PASS trivial (OUTR (PASS trivial (OUTR (PASS trivial (FIN (.bool false) ?_ () ?_ [] ?_))))))))))
                      · as_aux_lemma => kernel_rfl
                      · (try simp [usedB] at *); simp_all [RV, actOk, noReq, reqEq, allKeep, usedB, List.length_pos_iff]
                      · rfl
                    · -- !(inB y38 0 20000) = false
                      have h40 := bh40
                      have h40 := notF h40
                      refine SKIP (OUTN (NEXT (REGION [0, 1] rfl (RUN0 1 [1] [(1, .p 0 0), (52, .v (.slice a_keep_a a.keep.length a_keep_c)), (53, I (a.keep.length : Int)), (61, I (wr ((k : Int) + 1)))] ?_ rfl ?_))))
                      · as_aux_lemma => kernel_rfl
                      refine CAST (d := 61) (vi (wr ((k : Int) + 1))) (vi ((k + 1 : Nat) : Int)) ?_ (vi_cast (by omega) (by omega)) ?_
                      · as_aux_lemma => kernel_rfl
                      refine RUN0 1 [] [(1, .p 0 0), (52, .v (.slice a_keep_a a.keep.length a_keep_c)), (53, I (a.keep.length : Int)), (54, I ((k + 1 : Nat) : Int))] ?_ rfl ?_
                      · as_aux_lemma => kernel_rfl
                      refine ENDOPS (BACK (k + 1, ys39) [1, 52, 53, 54] 1 [] _ ⟨hl_y38, hd_y38, hv0.trans (by simp [allKeep, *])⟩ (by simp) ?_ rfl rfl rfl)
                      · as_aux_lemma => kernel_rfl
                  · -- decide ((k : Int) < (a.keep.length : Int)) = false
                    have h37 := bh37
                    have h37 := of_decide_eq_false h37
                    obtain rfl := drop_nil hk (by omega)
                    refine EXIT (PASS trivial (PASS trivial (OUT (NEXT (SEQ (REGION [0, 1, 2, 3, 4] rfl (RUN0 5 [] [(2, B (decide ((a.keep.length : Int) ≤ 3)))] ?_ rfl ?_)))))))
                    · as_aux_lemma => kernel_rfl
                    refine ENDOPS (NEXT (RET (OUTR (PASS trivial (FIN (.bool (decide ((a.keep.length : Int) ≤ 3))) ?_ () ?_ [] ?_)))))
                    · as_aux_lemma => kernel_rfl
                    · (try simp [usedB] at *); simp_all [RV, actOk, noReq, reqEq, allKeep, usedB, List.length_pos_iff]
                    · rfl
                · -- a.kind == 4 = false
                  have h36 := bh36
                  have h36 := ne_of_beq_false h36
                  refine SKIP (OUTN (NEXT (SEQ (REGION [0] rfl (RUN0 1 [] [(2, B false)] ?_ rfl ?_)))))
                  · as_aux_lemma => kernel_rfl
                  refine ENDOPS (NEXT (RET (FIN (.bool false) ?_ () ?_ [] ?_)))
                  · as_aux_lemma => kernel_rfl
                  · (try simp [usedB] at *); simp_all [RV, actOk, noReq, reqEq, allKeep, usedB, List.length_pos_iff]
                  · rfl
  · -- a.kind != 1 = false
    have h1 := bh1
    have h1 := bneF h1
    refine RUN0 10 [14, 15, 16, 17, 18, 19, 20, 21, 22, 23, 24, 25, 26, 27, 28, 29] [(1, .p 0 0), (14, B false), (18, B (a.kind != 3))] ?_ rfl ?_
    · as_aux_lemma => kernel_rfl
    refine SPLIT (d := 18) (a.kind != 3) ?_ (fun bh41 => ?_) (fun bh41 => ?_)
    · as_aux_lemma => kernel_rfl
    · -- a.kind != 3 = true
      have h41 := bh41
      have h41 := bne_iff_ne.1 h41
      refine RUN0 6 [20, 21, 22, 23, 24, 25, 26, 27, 28, 29] [(1, .p 0 0), (24, B (a.n != 0))] ?_ rfl ?_
      · as_aux_lemma => kernel_rfl
      refine SPLIT (d := 24) (a.n != 0) ?_ (fun bh42 => ?_) (fun bh42 => ?_)
      · as_aux_lemma => kernel_rfl
      · -- a.n != 0 = true
        have h42 := bh42
        have h42 := bne_iff_ne.1 h42
        refine RUN0 10 [] [(1, .p 0 0), (34, B true)] ?_ rfl ?_
        · as_aux_lemma => kernel_rfl
        refine ENDOPS (NEXT (IFT ?_ ?_))
        · as_aux_lemma => kernel_rfl
        refine SEQ (REGION [0] rfl (RUN0 1 [] [(2, B false)] ?_ rfl ?_))
        · as_aux_lemma => kernel_rfl
        refine ENDOPS (NEXT (RET (PASS trivial (FIN (.bool false) ?_ () ?_ [] ?_))))
        · as_aux_lemma => kernel_rfl
        · (try simp [usedB] at *); simp_all [RV, actOk, noReq, reqEq, allKeep, usedB, List.length_pos_iff]
        · rfl
      · -- a.n != 0 = false
        have h42 := bh42
        have h42 := bneF h42
        refine RUN0 4 [24, 25, 26, 27, 28, 29] [(1, .p 0 0), (24, B false), (28, B (a.kind != 4))] ?_ rfl ?_
        · as_aux_lemma => kernel_rfl
        refine SPLIT (d := 28) (a.kind != 4) ?_ (fun bh43 => ?_) (fun bh43 => ?_)
        · as_aux_lemma => kernel_rfl
        · -- a.kind != 4 = true
          have h43 := bh43
          have h43 := bne_iff_ne.1 h43
          refine RUN0 6 [] [(1, .p 0 0), (34, B (decide ((a.keep.length : Int) > 0)))] ?_ rfl ?_
          · as_aux_lemma => kernel_rfl
          refine ENDOPS (NEXT (IF (decide ((a.keep.length : Int) > 0)) ?_ (fun bh44 => ?_) (fun bh44 => ?_)))
          · as_aux_lemma => kernel_rfl
          · -- decide ((a.keep.length : Int) > 0) = true
            have h44 := bh44
            have h44 := of_decide_eq_true h44
            refine SEQ (REGION [0] rfl (RUN0 1 [] [(2, B false)] ?_ rfl ?_))
            · as_aux_lemma => kernel_rfl
            refine ENDOPS (NEXT (RET (PASS trivial (FIN (.bool false) ?_ () ?_ [] ?_))))
            · as_aux_lemma => kernel_rfl
            · (try simp [usedB] at *); simp_all [RV, actOk, noReq, reqEq, allKeep, usedB, List.length_pos_iff]
            · rfl
          · -- decide ((a.keep.length : Int) > 0) = false
            have h44 := bh44
            have h44 := of_decide_eq_false h44
            refine SKIP (NEXT (SEQ (SEQ (REGION [0, 1] rfl (RUN0 2 [] [(1, .p 0 0), (36, I a.kind)] ?_ rfl ?_)))))
            · as_aux_lemma => kernel_rfl
            refine ENDOPS (NEXT (BLOCK (SEQ (REGION [0, 1] rfl (RUN0 2 [] [(1, .p 0 0), (36, I a.kind), (37, B (a.kind == 1))] ?_ rfl ?_)))))
            · as_aux_lemma => kernel_rfl
            refine ENDOPS (NEXT (IF (a.kind == 1) ?_ (fun bh45 => ?_) (fun bh45 => ?_)))
            · as_aux_lemma => kernel_rfl
            · -- a.kind == 1 = true
              have h45 := bh45
              have h45 := eq_of_beq h45
              refine SEQ (REGION [0, 1, 2, 3] rfl (RUN0 2 [2, 3] [(40, .v (.agg #[vi a.req.kind, vi a.req.id, vi a.req.cabin, vi a.req.from', vi a.req.size, vi a.req.tier]))] ?_ rfl ?_))
              · as_aux_lemma => kernel_rfl
              refine OPC (CALL 39 #[.agg #[vi a.req.kind, vi a.req.id, vi a.req.cabin, vi a.req.from', vi a.req.size, vi a.req.tier]] (some 41) ?_ [] [] _ rfl (RV (.bool (reqOk a.req))) (fun w hw => iReqOk_c w a.req) (by rintro _ ⟨⟩; exact Nat.le_of_ble_eq_true rfl) ?_)
              · as_aux_lemma => kernel_rfl
              rintro ⟨⟩
              refine RUN0 1 [] [(2, B (reqOk a.req))] ?_ rfl ?_
              · as_aux_lemma => kernel_rfl
              refine ENDOPS (NEXT (RET (OUTR (PASS trivial (FIN (.bool (reqOk a.req)) ?_ () ?_ [] ?_)))))
              · as_aux_lemma => kernel_rfl
              · (try simp [usedB] at *); simp_all [RV, actOk, noReq, reqEq, allKeep, usedB, List.length_pos_iff]
              · rfl
            · -- a.kind == 1 = false
              have h45 := bh45
              have h45 := ne_of_beq_false h45
              refine SEQ (REGION [0, 1] rfl (RUN0 2 [] [(1, .p 0 0), (36, I a.kind), (42, B (a.kind == 2))] ?_ rfl ?_))
              · as_aux_lemma => kernel_rfl
              refine ENDOPS (NEXT (IF (a.kind == 2) ?_ (fun bh46 => ?_) (fun bh46 => ?_)))
              · as_aux_lemma => kernel_rfl
              · -- a.kind == 2 = true
                have h46 := bh46
                have h46 := eq_of_beq h46
                refine SEQ (REGION [0] rfl (RUN0 1 [] [(2, B true)] ?_ rfl ?_))
                · as_aux_lemma => kernel_rfl
                refine ENDOPS (NEXT (RET (OUTR (PASS trivial (FIN (.bool true) ?_ () ?_ [] ?_)))))
                · as_aux_lemma => kernel_rfl
                · (try simp [usedB] at *); simp_all [RV, actOk, noReq, reqEq, allKeep, usedB, List.length_pos_iff]
                · rfl
              · -- a.kind == 2 = false
                have h46 := bh46
                have h46 := ne_of_beq_false h46
                refine SEQ (REGION [0, 1] rfl (RUN0 2 [] [(1, .p 0 0), (36, I a.kind), (44, B (a.kind == 3))] ?_ rfl ?_))
                · as_aux_lemma => kernel_rfl
                refine ENDOPS (NEXT (IF (a.kind == 3) ?_ (fun bh47 => ?_) (fun bh47 => ?_)))
                · as_aux_lemma => kernel_rfl
                · -- a.kind == 3 = true
                  have h47 := bh47
                  have h47 := eq_of_beq h47
                  refine SEQ (REGION [0, 1, 2, 3] rfl (RUN0 2 [2, 3] [(47, I a.n)] ?_ rfl ?_))
                  · as_aux_lemma => kernel_rfl
                  refine OPC (CALL 54 #[vi a.n, vi 0, vi 9999] (some 48) ?_ [] [] _ rfl (RV (.bool (inB a.n 0 9999))) (fun w hw => within_c w a.n 0 9999) (by rintro _ ⟨⟩; exact Nat.le_of_ble_eq_true rfl) ?_)
                  · as_aux_lemma => kernel_rfl
                  rintro ⟨⟩
                  refine RUN0 1 [] [(2, B (inB a.n 0 9999))] ?_ rfl ?_
                  · as_aux_lemma => kernel_rfl
                  refine ENDOPS (NEXT (RET (OUTR (PASS trivial (FIN (.bool (inB a.n 0 9999)) ?_ () ?_ [] ?_)))))
                  · as_aux_lemma => kernel_rfl
                  · (try simp [usedB] at *); simp_all [RV, actOk, noReq, reqEq, allKeep, usedB, List.length_pos_iff]
                  · rfl
                · -- a.kind == 3 = false
                  have h47 := bh47
                  have h47 := ne_of_beq_false h47
                  refine SEQ (REGION [0, 1] rfl (RUN0 2 [] [(1, .p 0 0), (49, B (a.kind == 4))] ?_ rfl ?_))
                  · as_aux_lemma => kernel_rfl
                  refine ENDOPS (NEXT (IF (a.kind == 4) ?_ (fun bh48 => ?_) (fun bh48 => ?_)))
                  · as_aux_lemma => kernel_rfl
                  · -- a.kind == 4 = true
                    have h48 := bh48
                    have h48 := eq_of_beq h48
                    refine SEQ (SEQ (REGION [0, 1, 2, 3] rfl (RUN0 4 [] [(1, .p 0 0), (52, .v (.slice a_keep_a a.keep.length a_keep_c)), (53, I (a.keep.length : Int)), (54, I 0)] ?_ rfl ?_)))
                    · as_aux_lemma => kernel_rfl
                    refine ENDOPS (NEXT (BLOCK (LOOP (ι := Nat × (List Int)) (fun j => [(1, .p 0 0), (52, .v (.slice a_keep_a a.keep.length a_keep_c)), (53, I (a.keep.length : Int)), (54, I (j.1 : Int))]) (fun j => [(49, [vi a.kind, vi a.req.kind, vi a.req.id, vi a.req.cabin, vi a.req.from', vi a.req.size, vi a.req.tier, vi a.n, .slice a_keep_a a.keep.length a_keep_c])]) (fun j => []) (fun j => j.1 + j.2.length = a.keep.length ∧ a.keep.drop j.1 = j.2 ∧ allKeep a.keep = allKeep j.2) (fun j => j.2.length) (0, a.keep) [1, 52, 53, 54] ⟨by simp, rfl, rfl⟩ ?_ rfl rfl ?_)))
                    · as_aux_lemma => kernel_rfl
                    rintro ⟨k, ys⟩ ⟨hk, hd, hv0⟩
                    dsimp only at hk hd hv0
                    refine SEQ (REGION [0] rfl (RUN0 1 [] [(1, .p 0 0), (52, .v (.slice a_keep_a a.keep.length a_keep_c)), (53, I (a.keep.length : Int)), (54, I (k : Int)), (55, B (decide ((k : Int) < (a.keep.length : Int))))] ?_ rfl ?_))
                    · as_aux_lemma => kernel_rfl
                    refine ENDOPS (NEXT (SEQ (IF (decide ((k : Int) < (a.keep.length : Int))) ?_ (fun bh49 => ?_) (fun bh49 => ?_))))
                    · as_aux_lemma => kernel_rfl
                    · -- decide ((k : Int) < (a.keep.length : Int)) = true
                      have h49 := bh49
                      have h49 := of_decide_eq_true h49
                      obtain ⟨y50, ys51, rfl, hx_y50, hd_y50, hl_y50⟩ := drop_cons hd hk (by omega)
                      refine SKIP (NEXT (SEQ (BLOCK (SEQ (REGION [0, 1, 2] rfl (OPC (INDEX 22 (.tmp 52) (.tmp 54) 56 0 ?_ (Nat.le_of_ble_eq_true rfl) a_keep_a a.keep.length a_keep_c .i64 (k : Int) 3 1 ?_ ?_ ?_ ?_ (Rd.some ha_keep (by omega)) (by omega) (by omega) ?_)))))))
                      · as_aux_lemma => kernel_rfl
                      · as_aux_lemma => kernel_rfl
                      · as_aux_lemma => kernel_rfl
                      · as_aux_lemma => kernel_rfl
                      · as_aux_lemma => kernel_rfl
                      refine OPC (LOADE 3 (.tmp 56) 57 3 ?_ (Nat.le_of_ble_eq_true rfl) a_keep_a (k * 1) 0 [vi y50] (vi y50) ?_ (fun w hw => (ha_keep.fr hw.fr).flat hx_y50) ?_ ?_)
                      · as_aux_lemma => kernel_rfl
                      · as_aux_lemma => kernel_rfl
                      · as_aux_lemma => kernel_rfl
                      refine RUN0 1 [] [(1, .p 0 0), (4, I y50), (52, .v (.slice a_keep_a a.keep.length a_keep_c)), (53, I (a.keep.length : Int)), (54, I (k : Int))] ?_ rfl ?_
                      · as_aux_lemma => kernel_rfl
                      refine ENDOPS (NEXT (SEQ (REGION [0, 1, 2] rfl (RUN0 1 [1, 2] [(1, .p 0 0), (52, .v (.slice a_keep_a a.keep.length a_keep_c)), (53, I (a.keep.length : Int)), (54, I (k : Int)), (58, I y50)] ?_ rfl ?_))))
                      · as_aux_lemma => kernel_rfl
                      refine OPC (CALL 54 #[vi y50, vi 0, vi 20000] (some 59) ?_ [] [] _ rfl (RV (.bool (inB y50 0 20000))) (fun w hw => within_c w y50 0 20000) (by rintro _ ⟨⟩; exact Nat.le_of_ble_eq_true rfl) ?_)
                      · as_aux_lemma => kernel_rfl
                      rintro ⟨⟩
                      refine RUN0 1 [] [(1, .p 0 0), (52, .v (.slice a_keep_a a.keep.length a_keep_c)), (53, I (a.keep.length : Int)), (54, I (k : Int)), (60, B (!(inB y50 0 20000)))] ?_ rfl ?_
                      · as_aux_lemma => kernel_rfl
                      refine ENDOPS (NEXT (IF (!(inB y50 0 20000)) ?_ (fun bh52 => ?_) (fun bh52 => ?_)))
                      · as_aux_lemma => kernel_rfl
                      · -- !(inB y50 0 20000) = true
                        have h52 := bh52
                        have h52 := notT h52
                        refine SEQ (REGION [0] rfl (RUN0 1 [] [(2, B false)] ?_ rfl ?_))
                        · as_aux_lemma => kernel_rfl
                        refine ENDOPS (NEXT (RET (OUTR (PASS trivial (PASS trivial (OUTR (PASS trivial (OUTR (PASS trivial (FIN (.bool false) ?_ () ?_ [] ?_))))))))))
                        · as_aux_lemma => kernel_rfl
                        · (try simp [usedB] at *); simp_all [RV, actOk, noReq, reqEq, allKeep, usedB, List.length_pos_iff]
                        · rfl
                      · -- !(inB y50 0 20000) = false
                        have h52 := bh52
                        have h52 := notF h52
                        refine SKIP (OUTN (NEXT (REGION [0, 1] rfl (RUN0 1 [1] [(1, .p 0 0), (52, .v (.slice a_keep_a a.keep.length a_keep_c)), (53, I (a.keep.length : Int)), (61, I (wr ((k : Int) + 1)))] ?_ rfl ?_))))
                        · as_aux_lemma => kernel_rfl
                        refine CAST (d := 61) (vi (wr ((k : Int) + 1))) (vi ((k + 1 : Nat) : Int)) ?_ (vi_cast (by omega) (by omega)) ?_
                        · as_aux_lemma => kernel_rfl
                        refine RUN0 1 [] [(1, .p 0 0), (52, .v (.slice a_keep_a a.keep.length a_keep_c)), (53, I (a.keep.length : Int)), (54, I ((k + 1 : Nat) : Int))] ?_ rfl ?_
                        · as_aux_lemma => kernel_rfl
                        refine ENDOPS (BACK (k + 1, ys51) [1, 52, 53, 54] 1 [] _ ⟨hl_y50, hd_y50, hv0.trans (by simp [allKeep, *])⟩ (by simp) ?_ rfl rfl rfl)
                        · as_aux_lemma => kernel_rfl
                    · -- decide ((k : Int) < (a.keep.length : Int)) = false
                      have h49 := bh49
                      have h49 := of_decide_eq_false h49
                      obtain rfl := drop_nil hk (by omega)
                      refine EXIT (PASS trivial (PASS trivial (OUT (NEXT (SEQ (REGION [0, 1, 2, 3, 4] rfl (RUN0 5 [] [(2, B (decide ((a.keep.length : Int) ≤ 3)))] ?_ rfl ?_)))))))
                      · as_aux_lemma => kernel_rfl
                      refine ENDOPS (NEXT (RET (OUTR (PASS trivial (FIN (.bool (decide ((a.keep.length : Int) ≤ 3))) ?_ () ?_ [] ?_)))))
                      · as_aux_lemma => kernel_rfl
                      · (try simp [usedB] at *); simp_all [RV, actOk, noReq, reqEq, allKeep, usedB, List.length_pos_iff]
                      · rfl
                  · -- a.kind == 4 = false
                    have h48 := bh48
                    have h48 := ne_of_beq_false h48
                    refine SKIP (OUTN (NEXT (SEQ (REGION [0] rfl (RUN0 1 [] [(2, B false)] ?_ rfl ?_)))))
                    · as_aux_lemma => kernel_rfl
                    refine ENDOPS (NEXT (RET (FIN (.bool false) ?_ () ?_ [] ?_)))
                    · as_aux_lemma => kernel_rfl
                    · (try simp [usedB] at *); simp_all [RV, actOk, noReq, reqEq, allKeep, usedB, List.length_pos_iff]
                    · rfl
        · -- a.kind != 4 = false
          have h43 := bh43
          have h43 := bneF h43
          refine RUN0 6 [] [(1, .p 0 0), (34, B false)] ?_ rfl ?_
          · as_aux_lemma => kernel_rfl
          refine ENDOPS (NEXT (IFF ?_ ?_))
          · as_aux_lemma => kernel_rfl
          refine SKIP (NEXT (SEQ (SEQ (REGION [0, 1] rfl (RUN0 2 [] [(1, .p 0 0), (36, I a.kind)] ?_ rfl ?_)))))
          · as_aux_lemma => kernel_rfl
          refine ENDOPS (NEXT (BLOCK (SEQ (REGION [0, 1] rfl (RUN0 2 [] [(1, .p 0 0), (36, I a.kind), (37, B (a.kind == 1))] ?_ rfl ?_)))))
          · as_aux_lemma => kernel_rfl
          refine ENDOPS (NEXT (IF (a.kind == 1) ?_ (fun bh53 => ?_) (fun bh53 => ?_)))
          · as_aux_lemma => kernel_rfl
          · -- a.kind == 1 = true
            have h53 := bh53
            have h53 := eq_of_beq h53
            refine SEQ (REGION [0, 1, 2, 3] rfl (RUN0 2 [2, 3] [(40, .v (.agg #[vi a.req.kind, vi a.req.id, vi a.req.cabin, vi a.req.from', vi a.req.size, vi a.req.tier]))] ?_ rfl ?_))
            · as_aux_lemma => kernel_rfl
            refine OPC (CALL 39 #[.agg #[vi a.req.kind, vi a.req.id, vi a.req.cabin, vi a.req.from', vi a.req.size, vi a.req.tier]] (some 41) ?_ [] [] _ rfl (RV (.bool (reqOk a.req))) (fun w hw => iReqOk_c w a.req) (by rintro _ ⟨⟩; exact Nat.le_of_ble_eq_true rfl) ?_)
            · as_aux_lemma => kernel_rfl
            rintro ⟨⟩
            refine RUN0 1 [] [(2, B (reqOk a.req))] ?_ rfl ?_
            · as_aux_lemma => kernel_rfl
            refine ENDOPS (NEXT (RET (OUTR (PASS trivial (FIN (.bool (reqOk a.req)) ?_ () ?_ [] ?_)))))
            · as_aux_lemma => kernel_rfl
            · (try simp [usedB] at *); simp_all [RV, actOk, noReq, reqEq, allKeep, usedB, List.length_pos_iff]
            · rfl
          · -- a.kind == 1 = false
            have h53 := bh53
            have h53 := ne_of_beq_false h53
            refine SEQ (REGION [0, 1] rfl (RUN0 2 [] [(1, .p 0 0), (36, I a.kind), (42, B (a.kind == 2))] ?_ rfl ?_))
            · as_aux_lemma => kernel_rfl
            refine ENDOPS (NEXT (IF (a.kind == 2) ?_ (fun bh54 => ?_) (fun bh54 => ?_)))
            · as_aux_lemma => kernel_rfl
            · -- a.kind == 2 = true
              have h54 := bh54
              have h54 := eq_of_beq h54
              refine SEQ (REGION [0] rfl (RUN0 1 [] [(2, B true)] ?_ rfl ?_))
              · as_aux_lemma => kernel_rfl
              refine ENDOPS (NEXT (RET (OUTR (PASS trivial (FIN (.bool true) ?_ () ?_ [] ?_)))))
              · as_aux_lemma => kernel_rfl
              · (try simp [usedB] at *); simp_all [RV, actOk, noReq, reqEq, allKeep, usedB, List.length_pos_iff]
              · rfl
            · -- a.kind == 2 = false
              have h54 := bh54
              have h54 := ne_of_beq_false h54
              refine SEQ (REGION [0, 1] rfl (RUN0 2 [] [(1, .p 0 0), (36, I a.kind), (44, B (a.kind == 3))] ?_ rfl ?_))
              · as_aux_lemma => kernel_rfl
              refine ENDOPS (NEXT (IF (a.kind == 3) ?_ (fun bh55 => ?_) (fun bh55 => ?_)))
              · as_aux_lemma => kernel_rfl
              · -- a.kind == 3 = true
                have h55 := bh55
                have h55 := eq_of_beq h55
                refine SEQ (REGION [0, 1, 2, 3] rfl (RUN0 2 [2, 3] [(47, I a.n)] ?_ rfl ?_))
                · as_aux_lemma => kernel_rfl
                refine OPC (CALL 54 #[vi a.n, vi 0, vi 9999] (some 48) ?_ [] [] _ rfl (RV (.bool (inB a.n 0 9999))) (fun w hw => within_c w a.n 0 9999) (by rintro _ ⟨⟩; exact Nat.le_of_ble_eq_true rfl) ?_)
                · as_aux_lemma => kernel_rfl
                rintro ⟨⟩
                refine RUN0 1 [] [(2, B (inB a.n 0 9999))] ?_ rfl ?_
                · as_aux_lemma => kernel_rfl
                refine ENDOPS (NEXT (RET (OUTR (PASS trivial (FIN (.bool (inB a.n 0 9999)) ?_ () ?_ [] ?_)))))
                · as_aux_lemma => kernel_rfl
                · (try simp [usedB] at *); simp_all [RV, actOk, noReq, reqEq, allKeep, usedB, List.length_pos_iff]
                · rfl
              · -- a.kind == 3 = false
                have h55 := bh55
                have h55 := ne_of_beq_false h55
                refine SEQ (REGION [0, 1] rfl (RUN0 2 [] [(1, .p 0 0), (49, B (a.kind == 4))] ?_ rfl ?_))
                · as_aux_lemma => kernel_rfl
                refine ENDOPS (NEXT (IF (a.kind == 4) ?_ (fun bh56 => ?_) (fun bh56 => ?_)))
                · as_aux_lemma => kernel_rfl
                · -- a.kind == 4 = true
                  have h56 := bh56
                  have h56 := eq_of_beq h56
                  refine SEQ (SEQ (REGION [0, 1, 2, 3] rfl (RUN0 4 [] [(1, .p 0 0), (52, .v (.slice a_keep_a a.keep.length a_keep_c)), (53, I (a.keep.length : Int)), (54, I 0)] ?_ rfl ?_)))
                  · as_aux_lemma => kernel_rfl
                  refine ENDOPS (NEXT (BLOCK (LOOP (ι := Nat × (List Int)) (fun j => [(1, .p 0 0), (52, .v (.slice a_keep_a a.keep.length a_keep_c)), (53, I (a.keep.length : Int)), (54, I (j.1 : Int))]) (fun j => [(49, [vi a.kind, vi a.req.kind, vi a.req.id, vi a.req.cabin, vi a.req.from', vi a.req.size, vi a.req.tier, vi a.n, .slice a_keep_a a.keep.length a_keep_c])]) (fun j => []) (fun j => j.1 + j.2.length = a.keep.length ∧ a.keep.drop j.1 = j.2 ∧ allKeep a.keep = allKeep j.2) (fun j => j.2.length) (0, a.keep) [1, 52, 53, 54] ⟨by simp, rfl, rfl⟩ ?_ rfl rfl ?_)))
                  · as_aux_lemma => kernel_rfl
                  rintro ⟨k, ys⟩ ⟨hk, hd, hv0⟩
                  dsimp only at hk hd hv0
                  refine SEQ (REGION [0] rfl (RUN0 1 [] [(1, .p 0 0), (52, .v (.slice a_keep_a a.keep.length a_keep_c)), (53, I (a.keep.length : Int)), (54, I (k : Int)), (55, B (decide ((k : Int) < (a.keep.length : Int))))] ?_ rfl ?_))
                  · as_aux_lemma => kernel_rfl
                  refine ENDOPS (NEXT (SEQ (IF (decide ((k : Int) < (a.keep.length : Int))) ?_ (fun bh57 => ?_) (fun bh57 => ?_))))
                  · as_aux_lemma => kernel_rfl
                  · -- decide ((k : Int) < (a.keep.length : Int)) = true
                    have h57 := bh57
                    have h57 := of_decide_eq_true h57
                    obtain ⟨y58, ys59, rfl, hx_y58, hd_y58, hl_y58⟩ := drop_cons hd hk (by omega)
                    refine SKIP (NEXT (SEQ (BLOCK (SEQ (REGION [0, 1, 2] rfl (OPC (INDEX 22 (.tmp 52) (.tmp 54) 56 0 ?_ (Nat.le_of_ble_eq_true rfl) a_keep_a a.keep.length a_keep_c .i64 (k : Int) 3 1 ?_ ?_ ?_ ?_ (Rd.some ha_keep (by omega)) (by omega) (by omega) ?_)))))))
                    · as_aux_lemma => kernel_rfl
                    · as_aux_lemma => kernel_rfl
                    · as_aux_lemma => kernel_rfl
                    · as_aux_lemma => kernel_rfl
                    · as_aux_lemma => kernel_rfl
                    refine OPC (LOADE 3 (.tmp 56) 57 3 ?_ (Nat.le_of_ble_eq_true rfl) a_keep_a (k * 1) 0 [vi y58] (vi y58) ?_ (fun w hw => (ha_keep.fr hw.fr).flat hx_y58) ?_ ?_)
                    · as_aux_lemma => kernel_rfl
                    · as_aux_lemma => kernel_rfl
                    · as_aux_lemma => kernel_rfl
                    refine RUN0 1 [] [(1, .p 0 0), (4, I y58), (52, .v (.slice a_keep_a a.keep.length a_keep_c)), (53, I (a.keep.length : Int)), (54, I (k : Int))] ?_ rfl ?_
                    · as_aux_lemma => kernel_rfl
                    refine ENDOPS (NEXT (SEQ (REGION [0, 1, 2] rfl (RUN0 1 [1, 2] [(1, .p 0 0), (52, .v (.slice a_keep_a a.keep.length a_keep_c)), (53, I (a.keep.length : Int)), (54, I (k : Int)), (58, I y58)] ?_ rfl ?_))))
                    · as_aux_lemma => kernel_rfl
                    refine OPC (CALL 54 #[vi y58, vi 0, vi 20000] (some 59) ?_ [] [] _ rfl (RV (.bool (inB y58 0 20000))) (fun w hw => within_c w y58 0 20000) (by rintro _ ⟨⟩; exact Nat.le_of_ble_eq_true rfl) ?_)
                    · as_aux_lemma => kernel_rfl
                    rintro ⟨⟩
                    refine RUN0 1 [] [(1, .p 0 0), (52, .v (.slice a_keep_a a.keep.length a_keep_c)), (53, I (a.keep.length : Int)), (54, I (k : Int)), (60, B (!(inB y58 0 20000)))] ?_ rfl ?_
                    · as_aux_lemma => kernel_rfl
                    refine ENDOPS (NEXT (IF (!(inB y58 0 20000)) ?_ (fun bh60 => ?_) (fun bh60 => ?_)))
                    · as_aux_lemma => kernel_rfl
                    · -- !(inB y58 0 20000) = true
                      have h60 := bh60
                      have h60 := notT h60
                      refine SEQ (REGION [0] rfl (RUN0 1 [] [(2, B false)] ?_ rfl ?_))
                      · as_aux_lemma => kernel_rfl
                      refine ENDOPS (NEXT (RET (OUTR (PASS trivial (PASS trivial (OUTR (PASS trivial (OUTR (PASS trivial (FIN (.bool false) ?_ () ?_ [] ?_))))))))))
                      · as_aux_lemma => kernel_rfl
                      · (try simp [usedB] at *); simp_all [RV, actOk, noReq, reqEq, allKeep, usedB, List.length_pos_iff]
                      · rfl
                    · -- !(inB y58 0 20000) = false
                      have h60 := bh60
                      have h60 := notF h60
                      refine SKIP (OUTN (NEXT (REGION [0, 1] rfl (RUN0 1 [1] [(1, .p 0 0), (52, .v (.slice a_keep_a a.keep.length a_keep_c)), (53, I (a.keep.length : Int)), (61, I (wr ((k : Int) + 1)))] ?_ rfl ?_))))
                      · as_aux_lemma => kernel_rfl
                      refine CAST (d := 61) (vi (wr ((k : Int) + 1))) (vi ((k + 1 : Nat) : Int)) ?_ (vi_cast (by omega) (by omega)) ?_
                      · as_aux_lemma => kernel_rfl
                      refine RUN0 1 [] [(1, .p 0 0), (52, .v (.slice a_keep_a a.keep.length a_keep_c)), (53, I (a.keep.length : Int)), (54, I ((k + 1 : Nat) : Int))] ?_ rfl ?_
                      · as_aux_lemma => kernel_rfl
                      refine ENDOPS (BACK (k + 1, ys59) [1, 52, 53, 54] 1 [] _ ⟨hl_y58, hd_y58, hv0.trans (by simp [allKeep, *])⟩ (by simp) ?_ rfl rfl rfl)
                      · as_aux_lemma => kernel_rfl
                  · -- decide ((k : Int) < (a.keep.length : Int)) = false
                    have h57 := bh57
                    have h57 := of_decide_eq_false h57
                    obtain rfl := drop_nil hk (by omega)
                    refine EXIT (PASS trivial (PASS trivial (OUT (NEXT (SEQ (REGION [0, 1, 2, 3, 4] rfl (RUN0 5 [] [(2, B (decide ((a.keep.length : Int) ≤ 3)))] ?_ rfl ?_)))))))
                    · as_aux_lemma => kernel_rfl
                    refine ENDOPS (NEXT (RET (OUTR (PASS trivial (FIN (.bool (decide ((a.keep.length : Int) ≤ 3))) ?_ () ?_ [] ?_)))))
                    · as_aux_lemma => kernel_rfl
                    · (try simp [usedB] at *); simp_all [RV, actOk, noReq, reqEq, allKeep, usedB, List.length_pos_iff]
                    · rfl
                · -- a.kind == 4 = false
                  have h56 := bh56
                  have h56 := ne_of_beq_false h56
                  refine SKIP (OUTN (NEXT (SEQ (REGION [0] rfl (RUN0 1 [] [(2, B false)] ?_ rfl ?_)))))
                  · as_aux_lemma => kernel_rfl
                  refine ENDOPS (NEXT (RET (FIN (.bool false) ?_ () ?_ [] ?_)))
                  · as_aux_lemma => kernel_rfl
                  · (try simp [usedB] at *); simp_all [RV, actOk, noReq, reqEq, allKeep, usedB, List.length_pos_iff]
                  · rfl
    · -- a.kind != 3 = false
      have h41 := bh41
      have h41 := bneF h41
      refine RUN0 10 [24, 25, 26, 27, 28, 29] [(1, .p 0 0), (24, B false), (28, B (a.kind != 4))] ?_ rfl ?_
      · as_aux_lemma => kernel_rfl
      refine SPLIT (d := 28) (a.kind != 4) ?_ (fun bh61 => ?_) (fun bh61 => ?_)
      · as_aux_lemma => kernel_rfl
      · -- a.kind != 4 = true
        have h61 := bh61
        have h61 := bne_iff_ne.1 h61
        refine RUN0 6 [] [(1, .p 0 0), (34, B (decide ((a.keep.length : Int) > 0)))] ?_ rfl ?_
        · as_aux_lemma => kernel_rfl
        refine ENDOPS (NEXT (IF (decide ((a.keep.length : Int) > 0)) ?_ (fun bh62 => ?_) (fun bh62 => ?_)))
        · as_aux_lemma => kernel_rfl
        · -- decide ((a.keep.length : Int) > 0) = true
          have h62 := bh62
          have h62 := of_decide_eq_true h62
          refine SEQ (REGION [0] rfl (RUN0 1 [] [(2, B false)] ?_ rfl ?_))
          · as_aux_lemma => kernel_rfl
          refine ENDOPS (NEXT (RET (PASS trivial (FIN (.bool false) ?_ () ?_ [] ?_))))
          · as_aux_lemma => kernel_rfl
          · (try simp [usedB] at *); simp_all [RV, actOk, noReq, reqEq, allKeep, usedB, List.length_pos_iff]
          · rfl
        · -- decide ((a.keep.length : Int) > 0) = false
          have h62 := bh62
          have h62 := of_decide_eq_false h62
          refine SKIP (NEXT (SEQ (SEQ (REGION [0, 1] rfl (RUN0 2 [] [(1, .p 0 0), (36, I a.kind)] ?_ rfl ?_)))))
          · as_aux_lemma => kernel_rfl
          refine ENDOPS (NEXT (BLOCK (SEQ (REGION [0, 1] rfl (RUN0 2 [] [(1, .p 0 0), (36, I a.kind), (37, B (a.kind == 1))] ?_ rfl ?_)))))
          · as_aux_lemma => kernel_rfl
          refine ENDOPS (NEXT (IF (a.kind == 1) ?_ (fun bh63 => ?_) (fun bh63 => ?_)))
          · as_aux_lemma => kernel_rfl
          · -- a.kind == 1 = true
            have h63 := bh63
            have h63 := eq_of_beq h63
            refine SEQ (REGION [0, 1, 2, 3] rfl (RUN0 2 [2, 3] [(40, .v (.agg #[vi a.req.kind, vi a.req.id, vi a.req.cabin, vi a.req.from', vi a.req.size, vi a.req.tier]))] ?_ rfl ?_))
            · as_aux_lemma => kernel_rfl
            refine OPC (CALL 39 #[.agg #[vi a.req.kind, vi a.req.id, vi a.req.cabin, vi a.req.from', vi a.req.size, vi a.req.tier]] (some 41) ?_ [] [] _ rfl (RV (.bool (reqOk a.req))) (fun w hw => iReqOk_c w a.req) (by rintro _ ⟨⟩; exact Nat.le_of_ble_eq_true rfl) ?_)
            · as_aux_lemma => kernel_rfl
            rintro ⟨⟩
            refine RUN0 1 [] [(2, B (reqOk a.req))] ?_ rfl ?_
            · as_aux_lemma => kernel_rfl
            refine ENDOPS (NEXT (RET (OUTR (PASS trivial (FIN (.bool (reqOk a.req)) ?_ () ?_ [] ?_)))))
            · as_aux_lemma => kernel_rfl
            · (try simp [usedB] at *); simp_all [RV, actOk, noReq, reqEq, allKeep, usedB, List.length_pos_iff]
            · rfl
          · -- a.kind == 1 = false
            have h63 := bh63
            have h63 := ne_of_beq_false h63
            refine SEQ (REGION [0, 1] rfl (RUN0 2 [] [(1, .p 0 0), (36, I a.kind), (42, B (a.kind == 2))] ?_ rfl ?_))
            · as_aux_lemma => kernel_rfl
            refine ENDOPS (NEXT (IF (a.kind == 2) ?_ (fun bh64 => ?_) (fun bh64 => ?_)))
            · as_aux_lemma => kernel_rfl
            · -- a.kind == 2 = true
              have h64 := bh64
              have h64 := eq_of_beq h64
              refine SEQ (REGION [0] rfl (RUN0 1 [] [(2, B true)] ?_ rfl ?_))
              · as_aux_lemma => kernel_rfl
              refine ENDOPS (NEXT (RET (OUTR (PASS trivial (FIN (.bool true) ?_ () ?_ [] ?_)))))
              · as_aux_lemma => kernel_rfl
              · (try simp [usedB] at *); simp_all [RV, actOk, noReq, reqEq, allKeep, usedB, List.length_pos_iff]
              · rfl
            · -- a.kind == 2 = false
              have h64 := bh64
              have h64 := ne_of_beq_false h64
              refine SEQ (REGION [0, 1] rfl (RUN0 2 [] [(1, .p 0 0), (36, I a.kind), (44, B (a.kind == 3))] ?_ rfl ?_))
              · as_aux_lemma => kernel_rfl
              refine ENDOPS (NEXT (IF (a.kind == 3) ?_ (fun bh65 => ?_) (fun bh65 => ?_)))
              · as_aux_lemma => kernel_rfl
              · -- a.kind == 3 = true
                have h65 := bh65
                have h65 := eq_of_beq h65
                refine SEQ (REGION [0, 1, 2, 3] rfl (RUN0 2 [2, 3] [(47, I a.n)] ?_ rfl ?_))
                · as_aux_lemma => kernel_rfl
                refine OPC (CALL 54 #[vi a.n, vi 0, vi 9999] (some 48) ?_ [] [] _ rfl (RV (.bool (inB a.n 0 9999))) (fun w hw => within_c w a.n 0 9999) (by rintro _ ⟨⟩; exact Nat.le_of_ble_eq_true rfl) ?_)
                · as_aux_lemma => kernel_rfl
                rintro ⟨⟩
                refine RUN0 1 [] [(2, B (inB a.n 0 9999))] ?_ rfl ?_
                · as_aux_lemma => kernel_rfl
                refine ENDOPS (NEXT (RET (OUTR (PASS trivial (FIN (.bool (inB a.n 0 9999)) ?_ () ?_ [] ?_)))))
                · as_aux_lemma => kernel_rfl
                · (try simp [usedB] at *); simp_all [RV, actOk, noReq, reqEq, allKeep, usedB, List.length_pos_iff]
                · rfl
              · -- a.kind == 3 = false
                have h65 := bh65
                have h65 := ne_of_beq_false h65
                refine SEQ (REGION [0, 1] rfl (RUN0 2 [] [(1, .p 0 0), (49, B (a.kind == 4))] ?_ rfl ?_))
                · as_aux_lemma => kernel_rfl
                refine ENDOPS (NEXT (IF (a.kind == 4) ?_ (fun bh66 => ?_) (fun bh66 => ?_)))
                · as_aux_lemma => kernel_rfl
                · -- a.kind == 4 = true
                  have h66 := bh66
                  have h66 := eq_of_beq h66
                  refine SEQ (SEQ (REGION [0, 1, 2, 3] rfl (RUN0 4 [] [(1, .p 0 0), (52, .v (.slice a_keep_a a.keep.length a_keep_c)), (53, I (a.keep.length : Int)), (54, I 0)] ?_ rfl ?_)))
                  · as_aux_lemma => kernel_rfl
                  refine ENDOPS (NEXT (BLOCK (LOOP (ι := Nat × (List Int)) (fun j => [(1, .p 0 0), (52, .v (.slice a_keep_a a.keep.length a_keep_c)), (53, I (a.keep.length : Int)), (54, I (j.1 : Int))]) (fun j => [(49, [vi a.kind, vi a.req.kind, vi a.req.id, vi a.req.cabin, vi a.req.from', vi a.req.size, vi a.req.tier, vi a.n, .slice a_keep_a a.keep.length a_keep_c])]) (fun j => []) (fun j => j.1 + j.2.length = a.keep.length ∧ a.keep.drop j.1 = j.2 ∧ allKeep a.keep = allKeep j.2) (fun j => j.2.length) (0, a.keep) [1, 52, 53, 54] ⟨by simp, rfl, rfl⟩ ?_ rfl rfl ?_)))
                  · as_aux_lemma => kernel_rfl
                  rintro ⟨k, ys⟩ ⟨hk, hd, hv0⟩
                  dsimp only at hk hd hv0
                  refine SEQ (REGION [0] rfl (RUN0 1 [] [(1, .p 0 0), (52, .v (.slice a_keep_a a.keep.length a_keep_c)), (53, I (a.keep.length : Int)), (54, I (k : Int)), (55, B (decide ((k : Int) < (a.keep.length : Int))))] ?_ rfl ?_))
                  · as_aux_lemma => kernel_rfl
                  refine ENDOPS (NEXT (SEQ (IF (decide ((k : Int) < (a.keep.length : Int))) ?_ (fun bh67 => ?_) (fun bh67 => ?_))))
                  · as_aux_lemma => kernel_rfl
                  · -- decide ((k : Int) < (a.keep.length : Int)) = true
                    have h67 := bh67
                    have h67 := of_decide_eq_true h67
                    obtain ⟨y68, ys69, rfl, hx_y68, hd_y68, hl_y68⟩ := drop_cons hd hk (by omega)
                    refine SKIP (NEXT (SEQ (BLOCK (SEQ (REGION [0, 1, 2] rfl (OPC (INDEX 22 (.tmp 52) (.tmp 54) 56 0 ?_ (Nat.le_of_ble_eq_true rfl) a_keep_a a.keep.length a_keep_c .i64 (k : Int) 3 1 ?_ ?_ ?_ ?_ (Rd.some ha_keep (by omega)) (by omega) (by omega) ?_)))))))
                    · as_aux_lemma => kernel_rfl
                    · as_aux_lemma => kernel_rfl
                    · as_aux_lemma => kernel_rfl
                    · as_aux_lemma => kernel_rfl
                    · as_aux_lemma => kernel_rfl
                    refine OPC (LOADE 3 (.tmp 56) 57 3 ?_ (Nat.le_of_ble_eq_true rfl) a_keep_a (k * 1) 0 [vi y68] (vi y68) ?_ (fun w hw => (ha_keep.fr hw.fr).flat hx_y68) ?_ ?_)
                    · as_aux_lemma => kernel_rfl
                    · as_aux_lemma => kernel_rfl
                    · as_aux_lemma => kernel_rfl
                    refine RUN0 1 [] [(1, .p 0 0), (4, I y68), (52, .v (.slice a_keep_a a.keep.length a_keep_c)), (53, I (a.keep.length : Int)), (54, I (k : Int))] ?_ rfl ?_
                    · as_aux_lemma => kernel_rfl
                    refine ENDOPS (NEXT (SEQ (REGION [0, 1, 2] rfl (RUN0 1 [1, 2] [(1, .p 0 0), (52, .v (.slice a_keep_a a.keep.length a_keep_c)), (53, I (a.keep.length : Int)), (54, I (k : Int)), (58, I y68)] ?_ rfl ?_))))
                    · as_aux_lemma => kernel_rfl
                    refine OPC (CALL 54 #[vi y68, vi 0, vi 20000] (some 59) ?_ [] [] _ rfl (RV (.bool (inB y68 0 20000))) (fun w hw => within_c w y68 0 20000) (by rintro _ ⟨⟩; exact Nat.le_of_ble_eq_true rfl) ?_)
                    · as_aux_lemma => kernel_rfl
                    rintro ⟨⟩
                    refine RUN0 1 [] [(1, .p 0 0), (52, .v (.slice a_keep_a a.keep.length a_keep_c)), (53, I (a.keep.length : Int)), (54, I (k : Int)), (60, B (!(inB y68 0 20000)))] ?_ rfl ?_
                    · as_aux_lemma => kernel_rfl
                    refine ENDOPS (NEXT (IF (!(inB y68 0 20000)) ?_ (fun bh70 => ?_) (fun bh70 => ?_)))
                    · as_aux_lemma => kernel_rfl
                    · -- !(inB y68 0 20000) = true
                      have h70 := bh70
                      have h70 := notT h70
                      refine SEQ (REGION [0] rfl (RUN0 1 [] [(2, B false)] ?_ rfl ?_))
                      · as_aux_lemma => kernel_rfl
                      refine ENDOPS (NEXT (RET (OUTR (PASS trivial (PASS trivial (OUTR (PASS trivial (OUTR (PASS trivial (FIN (.bool false) ?_ () ?_ [] ?_))))))))))
                      · as_aux_lemma => kernel_rfl
                      · (try simp [usedB] at *); simp_all [RV, actOk, noReq, reqEq, allKeep, usedB, List.length_pos_iff]
                      · rfl
                    · -- !(inB y68 0 20000) = false
                      have h70 := bh70
                      have h70 := notF h70
                      refine SKIP (OUTN (NEXT (REGION [0, 1] rfl (RUN0 1 [1] [(1, .p 0 0), (52, .v (.slice a_keep_a a.keep.length a_keep_c)), (53, I (a.keep.length : Int)), (61, I (wr ((k : Int) + 1)))] ?_ rfl ?_))))
                      · as_aux_lemma => kernel_rfl
                      refine CAST (d := 61) (vi (wr ((k : Int) + 1))) (vi ((k + 1 : Nat) : Int)) ?_ (vi_cast (by omega) (by omega)) ?_
                      · as_aux_lemma => kernel_rfl
                      refine RUN0 1 [] [(1, .p 0 0), (52, .v (.slice a_keep_a a.keep.length a_keep_c)), (53, I (a.keep.length : Int)), (54, I ((k + 1 : Nat) : Int))] ?_ rfl ?_
                      · as_aux_lemma => kernel_rfl
                      refine ENDOPS (BACK (k + 1, ys69) [1, 52, 53, 54] 1 [] _ ⟨hl_y68, hd_y68, hv0.trans (by simp [allKeep, *])⟩ (by simp) ?_ rfl rfl rfl)
                      · as_aux_lemma => kernel_rfl
                  · -- decide ((k : Int) < (a.keep.length : Int)) = false
                    have h67 := bh67
                    have h67 := of_decide_eq_false h67
                    obtain rfl := drop_nil hk (by omega)
                    refine EXIT (PASS trivial (PASS trivial (OUT (NEXT (SEQ (REGION [0, 1, 2, 3, 4] rfl (RUN0 5 [] [(2, B (decide ((a.keep.length : Int) ≤ 3)))] ?_ rfl ?_)))))))
                    · as_aux_lemma => kernel_rfl
                    refine ENDOPS (NEXT (RET (OUTR (PASS trivial (FIN (.bool (decide ((a.keep.length : Int) ≤ 3))) ?_ () ?_ [] ?_)))))
                    · as_aux_lemma => kernel_rfl
                    · (try simp [usedB] at *); simp_all [RV, actOk, noReq, reqEq, allKeep, usedB, List.length_pos_iff]
                    · rfl
                · -- a.kind == 4 = false
                  have h66 := bh66
                  have h66 := ne_of_beq_false h66
                  refine SKIP (OUTN (NEXT (SEQ (REGION [0] rfl (RUN0 1 [] [(2, B false)] ?_ rfl ?_)))))
                  · as_aux_lemma => kernel_rfl
                  refine ENDOPS (NEXT (RET (FIN (.bool false) ?_ () ?_ [] ?_)))
                  · as_aux_lemma => kernel_rfl
                  · (try simp [usedB] at *); simp_all [RV, actOk, noReq, reqEq, allKeep, usedB, List.length_pos_iff]
                  · rfl
      · -- a.kind != 4 = false
        have h61 := bh61
        have h61 := bneF h61
        refine RUN0 6 [] [(1, .p 0 0), (34, B false)] ?_ rfl ?_
        · as_aux_lemma => kernel_rfl
        refine ENDOPS (NEXT (IFF ?_ ?_))
        · as_aux_lemma => kernel_rfl
        refine SKIP (NEXT (SEQ (SEQ (REGION [0, 1] rfl (RUN0 2 [] [(1, .p 0 0), (36, I a.kind)] ?_ rfl ?_)))))
        · as_aux_lemma => kernel_rfl
        refine ENDOPS (NEXT (BLOCK (SEQ (REGION [0, 1] rfl (RUN0 2 [] [(1, .p 0 0), (36, I a.kind), (37, B (a.kind == 1))] ?_ rfl ?_)))))
        · as_aux_lemma => kernel_rfl
        refine ENDOPS (NEXT (IF (a.kind == 1) ?_ (fun bh71 => ?_) (fun bh71 => ?_)))
        · as_aux_lemma => kernel_rfl
        · -- a.kind == 1 = true
          have h71 := bh71
          have h71 := eq_of_beq h71
          refine SEQ (REGION [0, 1, 2, 3] rfl (RUN0 2 [2, 3] [(40, .v (.agg #[vi a.req.kind, vi a.req.id, vi a.req.cabin, vi a.req.from', vi a.req.size, vi a.req.tier]))] ?_ rfl ?_))
          · as_aux_lemma => kernel_rfl
          refine OPC (CALL 39 #[.agg #[vi a.req.kind, vi a.req.id, vi a.req.cabin, vi a.req.from', vi a.req.size, vi a.req.tier]] (some 41) ?_ [] [] _ rfl (RV (.bool (reqOk a.req))) (fun w hw => iReqOk_c w a.req) (by rintro _ ⟨⟩; exact Nat.le_of_ble_eq_true rfl) ?_)
          · as_aux_lemma => kernel_rfl
          rintro ⟨⟩
          refine RUN0 1 [] [(2, B (reqOk a.req))] ?_ rfl ?_
          · as_aux_lemma => kernel_rfl
          refine ENDOPS (NEXT (RET (OUTR (PASS trivial (FIN (.bool (reqOk a.req)) ?_ () ?_ [] ?_)))))
          · as_aux_lemma => kernel_rfl
          · (try simp [usedB] at *); simp_all [RV, actOk, noReq, reqEq, allKeep, usedB, List.length_pos_iff]
          · rfl
        · -- a.kind == 1 = false
          have h71 := bh71
          have h71 := ne_of_beq_false h71
          refine SEQ (REGION [0, 1] rfl (RUN0 2 [] [(1, .p 0 0), (36, I a.kind), (42, B (a.kind == 2))] ?_ rfl ?_))
          · as_aux_lemma => kernel_rfl
          refine ENDOPS (NEXT (IF (a.kind == 2) ?_ (fun bh72 => ?_) (fun bh72 => ?_)))
          · as_aux_lemma => kernel_rfl
          · -- a.kind == 2 = true
            have h72 := bh72
            have h72 := eq_of_beq h72
            refine SEQ (REGION [0] rfl (RUN0 1 [] [(2, B true)] ?_ rfl ?_))
            · as_aux_lemma => kernel_rfl
            refine ENDOPS (NEXT (RET (OUTR (PASS trivial (FIN (.bool true) ?_ () ?_ [] ?_)))))
            · as_aux_lemma => kernel_rfl
            · (try simp [usedB] at *); simp_all [RV, actOk, noReq, reqEq, allKeep, usedB, List.length_pos_iff]
            · rfl
          · -- a.kind == 2 = false
            have h72 := bh72
            have h72 := ne_of_beq_false h72
            refine SEQ (REGION [0, 1] rfl (RUN0 2 [] [(1, .p 0 0), (36, I a.kind), (44, B (a.kind == 3))] ?_ rfl ?_))
            · as_aux_lemma => kernel_rfl
            refine ENDOPS (NEXT (IF (a.kind == 3) ?_ (fun bh73 => ?_) (fun bh73 => ?_)))
            · as_aux_lemma => kernel_rfl
            · -- a.kind == 3 = true
              have h73 := bh73
              have h73 := eq_of_beq h73
              refine SEQ (REGION [0, 1, 2, 3] rfl (RUN0 2 [2, 3] [(47, I a.n)] ?_ rfl ?_))
              · as_aux_lemma => kernel_rfl
              refine OPC (CALL 54 #[vi a.n, vi 0, vi 9999] (some 48) ?_ [] [] _ rfl (RV (.bool (inB a.n 0 9999))) (fun w hw => within_c w a.n 0 9999) (by rintro _ ⟨⟩; exact Nat.le_of_ble_eq_true rfl) ?_)
              · as_aux_lemma => kernel_rfl
              rintro ⟨⟩
              refine RUN0 1 [] [(2, B (inB a.n 0 9999))] ?_ rfl ?_
              · as_aux_lemma => kernel_rfl
              refine ENDOPS (NEXT (RET (OUTR (PASS trivial (FIN (.bool (inB a.n 0 9999)) ?_ () ?_ [] ?_)))))
              · as_aux_lemma => kernel_rfl
              · (try simp [usedB] at *); simp_all [RV, actOk, noReq, reqEq, allKeep, usedB, List.length_pos_iff]
              · rfl
            · -- a.kind == 3 = false
              have h73 := bh73
              have h73 := ne_of_beq_false h73
              refine SEQ (REGION [0, 1] rfl (RUN0 2 [] [(1, .p 0 0), (49, B (a.kind == 4))] ?_ rfl ?_))
              · as_aux_lemma => kernel_rfl
              refine ENDOPS (NEXT (IF (a.kind == 4) ?_ (fun bh74 => ?_) (fun bh74 => ?_)))
              · as_aux_lemma => kernel_rfl
              · -- a.kind == 4 = true
                have h74 := bh74
                have h74 := eq_of_beq h74
                refine SEQ (SEQ (REGION [0, 1, 2, 3] rfl (RUN0 4 [] [(1, .p 0 0), (52, .v (.slice a_keep_a a.keep.length a_keep_c)), (53, I (a.keep.length : Int)), (54, I 0)] ?_ rfl ?_)))
                · as_aux_lemma => kernel_rfl
                refine ENDOPS (NEXT (BLOCK (LOOP (ι := Nat × (List Int)) (fun j => [(1, .p 0 0), (52, .v (.slice a_keep_a a.keep.length a_keep_c)), (53, I (a.keep.length : Int)), (54, I (j.1 : Int))]) (fun j => [(49, [vi a.kind, vi a.req.kind, vi a.req.id, vi a.req.cabin, vi a.req.from', vi a.req.size, vi a.req.tier, vi a.n, .slice a_keep_a a.keep.length a_keep_c])]) (fun j => []) (fun j => j.1 + j.2.length = a.keep.length ∧ a.keep.drop j.1 = j.2 ∧ allKeep a.keep = allKeep j.2) (fun j => j.2.length) (0, a.keep) [1, 52, 53, 54] ⟨by simp, rfl, rfl⟩ ?_ rfl rfl ?_)))
                · as_aux_lemma => kernel_rfl
                rintro ⟨k, ys⟩ ⟨hk, hd, hv0⟩
                dsimp only at hk hd hv0
                refine SEQ (REGION [0] rfl (RUN0 1 [] [(1, .p 0 0), (52, .v (.slice a_keep_a a.keep.length a_keep_c)), (53, I (a.keep.length : Int)), (54, I (k : Int)), (55, B (decide ((k : Int) < (a.keep.length : Int))))] ?_ rfl ?_))
                · as_aux_lemma => kernel_rfl
                refine ENDOPS (NEXT (SEQ (IF (decide ((k : Int) < (a.keep.length : Int))) ?_ (fun bh75 => ?_) (fun bh75 => ?_))))
                · as_aux_lemma => kernel_rfl
                · -- decide ((k : Int) < (a.keep.length : Int)) = true
                  have h75 := bh75
                  have h75 := of_decide_eq_true h75
                  obtain ⟨y76, ys77, rfl, hx_y76, hd_y76, hl_y76⟩ := drop_cons hd hk (by omega)
                  refine SKIP (NEXT (SEQ (BLOCK (SEQ (REGION [0, 1, 2] rfl (OPC (INDEX 22 (.tmp 52) (.tmp 54) 56 0 ?_ (Nat.le_of_ble_eq_true rfl) a_keep_a a.keep.length a_keep_c .i64 (k : Int) 3 1 ?_ ?_ ?_ ?_ (Rd.some ha_keep (by omega)) (by omega) (by omega) ?_)))))))
                  · as_aux_lemma => kernel_rfl
                  · as_aux_lemma => kernel_rfl
                  · as_aux_lemma => kernel_rfl
                  · as_aux_lemma => kernel_rfl
                  · as_aux_lemma => kernel_rfl
                  refine OPC (LOADE 3 (.tmp 56) 57 3 ?_ (Nat.le_of_ble_eq_true rfl) a_keep_a (k * 1) 0 [vi y76] (vi y76) ?_ (fun w hw => (ha_keep.fr hw.fr).flat hx_y76) ?_ ?_)
                  · as_aux_lemma => kernel_rfl
                  · as_aux_lemma => kernel_rfl
                  · as_aux_lemma => kernel_rfl
                  refine RUN0 1 [] [(1, .p 0 0), (4, I y76), (52, .v (.slice a_keep_a a.keep.length a_keep_c)), (53, I (a.keep.length : Int)), (54, I (k : Int))] ?_ rfl ?_
                  · as_aux_lemma => kernel_rfl
                  refine ENDOPS (NEXT (SEQ (REGION [0, 1, 2] rfl (RUN0 1 [1, 2] [(1, .p 0 0), (52, .v (.slice a_keep_a a.keep.length a_keep_c)), (53, I (a.keep.length : Int)), (54, I (k : Int)), (58, I y76)] ?_ rfl ?_))))
                  · as_aux_lemma => kernel_rfl
                  refine OPC (CALL 54 #[vi y76, vi 0, vi 20000] (some 59) ?_ [] [] _ rfl (RV (.bool (inB y76 0 20000))) (fun w hw => within_c w y76 0 20000) (by rintro _ ⟨⟩; exact Nat.le_of_ble_eq_true rfl) ?_)
                  · as_aux_lemma => kernel_rfl
                  rintro ⟨⟩
                  refine RUN0 1 [] [(1, .p 0 0), (52, .v (.slice a_keep_a a.keep.length a_keep_c)), (53, I (a.keep.length : Int)), (54, I (k : Int)), (60, B (!(inB y76 0 20000)))] ?_ rfl ?_
                  · as_aux_lemma => kernel_rfl
                  refine ENDOPS (NEXT (IF (!(inB y76 0 20000)) ?_ (fun bh78 => ?_) (fun bh78 => ?_)))
                  · as_aux_lemma => kernel_rfl
                  · -- !(inB y76 0 20000) = true
                    have h78 := bh78
                    have h78 := notT h78
                    refine SEQ (REGION [0] rfl (RUN0 1 [] [(2, B false)] ?_ rfl ?_))
                    · as_aux_lemma => kernel_rfl
                    refine ENDOPS (NEXT (RET (OUTR (PASS trivial (PASS trivial (OUTR (PASS trivial (OUTR (PASS trivial (FIN (.bool false) ?_ () ?_ [] ?_))))))))))
                    · as_aux_lemma => kernel_rfl
                    · (try simp [usedB] at *); simp_all [RV, actOk, noReq, reqEq, allKeep, usedB, List.length_pos_iff]
                    · rfl
                  · -- !(inB y76 0 20000) = false
                    have h78 := bh78
                    have h78 := notF h78
                    refine SKIP (OUTN (NEXT (REGION [0, 1] rfl (RUN0 1 [1] [(1, .p 0 0), (52, .v (.slice a_keep_a a.keep.length a_keep_c)), (53, I (a.keep.length : Int)), (61, I (wr ((k : Int) + 1)))] ?_ rfl ?_))))
                    · as_aux_lemma => kernel_rfl
                    refine CAST (d := 61) (vi (wr ((k : Int) + 1))) (vi ((k + 1 : Nat) : Int)) ?_ (vi_cast (by omega) (by omega)) ?_
                    · as_aux_lemma => kernel_rfl
                    refine RUN0 1 [] [(1, .p 0 0), (52, .v (.slice a_keep_a a.keep.length a_keep_c)), (53, I (a.keep.length : Int)), (54, I ((k + 1 : Nat) : Int))] ?_ rfl ?_
                    · as_aux_lemma => kernel_rfl
                    refine ENDOPS (BACK (k + 1, ys77) [1, 52, 53, 54] 1 [] _ ⟨hl_y76, hd_y76, hv0.trans (by simp [allKeep, *])⟩ (by simp) ?_ rfl rfl rfl)
                    · as_aux_lemma => kernel_rfl
                · -- decide ((k : Int) < (a.keep.length : Int)) = false
                  have h75 := bh75
                  have h75 := of_decide_eq_false h75
                  obtain rfl := drop_nil hk (by omega)
                  refine EXIT (PASS trivial (PASS trivial (OUT (NEXT (SEQ (REGION [0, 1, 2, 3, 4] rfl (RUN0 5 [] [(2, B (decide ((a.keep.length : Int) ≤ 3)))] ?_ rfl ?_)))))))
                  · as_aux_lemma => kernel_rfl
                  refine ENDOPS (NEXT (RET (OUTR (PASS trivial (FIN (.bool (decide ((a.keep.length : Int) ≤ 3))) ?_ () ?_ [] ?_)))))
                  · as_aux_lemma => kernel_rfl
                  · (try simp [usedB] at *); simp_all [RV, actOk, noReq, reqEq, allKeep, usedB, List.length_pos_iff]
                  · rfl
              · -- a.kind == 4 = false
                have h74 := bh74
                have h74 := ne_of_beq_false h74
                refine SKIP (OUTN (NEXT (SEQ (REGION [0] rfl (RUN0 1 [] [(2, B false)] ?_ rfl ?_)))))
                · as_aux_lemma => kernel_rfl
                refine ENDOPS (NEXT (RET (FIN (.bool false) ?_ () ?_ [] ?_)))
                · as_aux_lemma => kernel_rfl
                · (try simp [usedB] at *); simp_all [RV, actOk, noReq, reqEq, allKeep, usedB, List.length_pos_iff]
                · rfl

end SX
end Go.Proofs.YtkkmfnfafkeeeaaDoor
