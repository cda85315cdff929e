/- Walks, printed by program. -/
import Derived.Test.YtpdijcbgdalphaaE8
import Derived.Test.YtpdijcbgdalphaaMdla
namespace Go.Proofs.Ytpdijcbgdalphaa
namespace SX
open Go Go.RowKit
set_option linter.unusedVariables false
set_option linter.unusedSimpArgs false
set_option maxRecDepth 10000
set_option maxHeartbeats 400000
theorem within_c (W : World) (n : Int) (lo : Int) (hi : Int) : Spec Try.prog W [] 15 #[vi n, vi lo, vi hi] (RV (.bool (inB n lo hi))) := by
  refine ENTER0 (N := 15) (vs := [vi n, vi lo, vi hi]) Try.func15 rfl rfl (Nat.le_of_ble_eq_true rfl) ?_
  refine SEQ (REGION [0] rfl (RUN0 1 [] [(0, I n), (1, I lo), (2, I hi)] ?_ rfl ?_))
  · as_aux_lemma => kernel_rfl
  refine ENDOPS (NEXT (SEQ (REGION [0, 1, 2, 3, 4, 5, 6, 7, 8] rfl (RUN0 4 [4, 5, 6, 7, 8] [(0, I n), (2, I hi), (10, B (decide (n ≥ lo)))] ?_ rfl ?_))))
  · as_aux_lemma => kernel_rfl
  refine SPLIT (d := 10) (decide (n ≥ lo)) ?_ (fun bh1 => ?_) (fun bh1 => ?_)
  · as_aux_lemma => kernel_rfl
  · -- decide (n ≥ lo) = true
    have h1 := bh1
    have h1 := of_decide_eq_true h1
    refine RUN0 5 [] [(6, B (decide (n ≤ hi)))] ?_ rfl ?_
    · as_aux_lemma => kernel_rfl
    refine ENDOPS (NEXT (RET (FIN (.bool (decide (n ≤ hi))) ?_ () ?_ [] ?_)))
    · as_aux_lemma => kernel_rfl
    · simp [RV, inB, *]
    · rfl
  · -- decide (n ≥ lo) = false
    have h1 := bh1
    have h1 := of_decide_eq_false h1
    refine RUN0 5 [] [(6, B false)] ?_ rfl ?_
    · as_aux_lemma => kernel_rfl
    refine ENDOPS (NEXT (RET (FIN (.bool false) ?_ () ?_ [] ?_)))
    · as_aux_lemma => kernel_rfl
    · simp [RV, inB, *]
    · rfl

theorem l12Field_c (W : World) (x : Int) : Spec Try.prog W [] 59 #[vi x] (RV (.bool (usedB x))) := by
  refine ENTER0 (N := 5) (vs := [vi x]) Try.func59 rfl rfl (Nat.le_of_ble_eq_true rfl) ?_
  refine SEQ (REGION [0] rfl (RUN0 1 [] [(0, I x)] ?_ rfl ?_))
  · as_aux_lemma => kernel_rfl
  refine ENDOPS (NEXT (SEQ (REGION [0, 1, 2] rfl (RUN0 1 [1, 2] [(3, I x)] ?_ rfl ?_))))
  · as_aux_lemma => kernel_rfl
  refine OPC (CALL 44 #[vi x, vi 0, vi 9999] (some 4) ?_ [] [] _ rfl (RV (.bool (inB x 0 9999))) (fun w hw => l1In_c w x 0 9999) (by rintro _ ⟨⟩; exact Nat.le_of_ble_eq_true rfl) ?_)
  · as_aux_lemma => kernel_rfl
  rintro ⟨⟩
  refine RUN0 1 [] [(2, B (inB x 0 9999))] ?_ rfl ?_
  · as_aux_lemma => kernel_rfl
  refine ENDOPS (NEXT (RET (FIN (.bool (inB x 0 9999)) ?_ () ?_ [] ?_)))
  · as_aux_lemma => kernel_rfl
  · simp [RV, usedB]
  · rfl

theorem iReqOk1_c (W : World) (n : Int) : Spec Try.prog W [] 48 #[vi n] (RV (.bool (usedB n))) := by
  refine ENTER0 (N := 5) (vs := [vi n]) Try.func48 rfl rfl (Nat.le_of_ble_eq_true rfl) ?_
  refine SEQ (REGION [0] rfl (RUN0 1 [] [(0, I n)] ?_ rfl ?_))
  · as_aux_lemma => kernel_rfl
  refine ENDOPS (NEXT (SEQ (REGION [0, 1, 2] rfl (RUN0 1 [1, 2] [(3, I n)] ?_ rfl ?_))))
  · as_aux_lemma => kernel_rfl
  refine OPC (CALL 15 #[vi n, vi 0, vi 9999] (some 4) ?_ [] [] _ rfl (RV (.bool (inB n 0 9999))) (fun w hw => within_c w n 0 9999) (by rintro _ ⟨⟩; exact Nat.le_of_ble_eq_true rfl) ?_)
  · as_aux_lemma => kernel_rfl
  rintro ⟨⟩
  refine RUN0 1 [] [(2, B (inB n 0 9999))] ?_ rfl ?_
  · as_aux_lemma => kernel_rfl
  refine ENDOPS (NEXT (RET (FIN (.bool (inB n 0 9999)) ?_ () ?_ [] ?_)))
  · as_aux_lemma => kernel_rfl
  · simp [RV, usedB]
  · rfl

theorem iReqOk_c (W : World) (q : Req) : Spec Try.prog W [] 28 #[.agg #[vi q.kind, vi q.id, vi q.cabin, vi q.from', vi q.size, vi q.tier]] (RV (.bool (reqOk q))) := by
  refine ENTER0 (N := 81) (vs := [.agg #[vi q.kind, vi q.id, vi q.cabin, vi q.from', vi q.size, vi q.tier]]) Try.func28 rfl rfl (Nat.le_of_ble_eq_true rfl) ?_
  refine SEQ (REGION [0, 1] rfl (RUN 2 [] [(1, .p 0 0)] [(25, [vi q.kind, vi q.id, vi q.cabin, vi q.from', vi q.size, vi q.tier])] ?_ rfl ?_))
  · as_aux_lemma => kernel_rfl
  refine ENDOPS (NEXT (SEQ (REGION [0] rfl (RUN0 1 [] [(1, .p 0 0), (3, .v (.func (.func 48) #[] #[]))] ?_ rfl ?_))))
  · as_aux_lemma => kernel_rfl
  refine ENDOPS (NEXT (SEQ (SEQ (REGION [0, 1] rfl (RUN0 2 [] [(1, .p 0 0), (3, .v (.func (.func 48) #[] #[])), (5, I q.kind)] ?_ rfl ?_)))))
  · as_aux_lemma => kernel_rfl
  refine ENDOPS (NEXT (BLOCK (SEQ (REGION [0, 1] rfl (RUN0 2 [] [(1, .p 0 0), (3, .v (.func (.func 48) #[] #[])), (5, I q.kind), (6, B (q.kind == 1))] ?_ rfl ?_)))))
  · as_aux_lemma => kernel_rfl
  refine ENDOPS (NEXT (IF (q.kind == 1) ?_ (fun bh1 => ?_) (fun bh1 => ?_)))
  · as_aux_lemma => kernel_rfl
  · -- q.kind == 1 = true
    have h1 := bh1
    have h1 := eq_of_beq h1
    refine SEQ (REGION [0, 1, 2, 3, 4, 5, 6, 7, 8, 9, 10, 11, 12, 13, 14, 15, 16, 17, 18, 19, 20, 21, 22, 23, 24, 25, 26, 27] rfl (RUN0 3 [3, 4, 5, 6, 7, 8, 9, 10, 11, 12, 13, 14, 15, 16, 17, 18, 19, 20, 21, 22, 23, 24, 25, 26, 27] [(1, .p 0 0), (3, .v (.func (.func 48) #[] #[])), (8, .v (.func (.func 48) #[] #[])), (10, I q.id)] ?_ rfl ?_))
    · as_aux_lemma => kernel_rfl
    refine OPC (CALL 48 #[vi q.id] (some 11) ?_ [] [] _ rfl (RV (.bool (usedB q.id))) (fun w hw => iReqOk1_c w q.id) (by rintro _ ⟨⟩; exact Nat.le_of_ble_eq_true rfl) ?_)
    · as_aux_lemma => kernel_rfl
    rintro ⟨⟩
    refine RUN0 1 [5, 6, 7, 8, 9, 10, 11, 12, 13, 14, 15, 16, 17, 18, 19, 20, 21, 22, 23, 24, 25, 26, 27] [(1, .p 0 0), (3, .v (.func (.func 48) #[] #[])), (12, B (usedB q.id))] ?_ rfl ?_
    · as_aux_lemma => kernel_rfl
    refine SPLIT (d := 12) (usedB q.id) ?_ (fun bh2 => ?_) (fun bh2 => ?_)
    · as_aux_lemma => kernel_rfl
    · -- usedB q.id = true
      have h2 := bh2
      refine RUN0 3 [8, 9, 10, 11, 12, 13, 14, 15, 16, 17, 18, 19, 20, 21, 22, 23, 24, 25, 26, 27] [(1, .p 0 0), (3, .v (.func (.func 48) #[] #[])), (12, B true), (13, .v (.func (.func 48) #[] #[])), (15, I q.cabin)] ?_ rfl ?_
      · as_aux_lemma => kernel_rfl
      refine OPC (CALL 48 #[vi q.cabin] (some 16) ?_ [] [] _ rfl (RV (.bool (usedB q.cabin))) (fun w hw => iReqOk1_c w q.cabin) (by rintro _ ⟨⟩; exact Nat.le_of_ble_eq_true rfl) ?_)
      · as_aux_lemma => kernel_rfl
      rintro ⟨⟩
      refine RUN0 2 [11, 12, 13, 14, 15, 16, 17, 18, 19, 20, 21, 22, 23, 24, 25, 26, 27] [(1, .p 0 0), (3, .v (.func (.func 48) #[] #[])), (18, B (usedB q.cabin))] ?_ rfl ?_
      · as_aux_lemma => kernel_rfl
      refine SPLIT (d := 18) (usedB q.cabin) ?_ (fun bh3 => ?_) (fun bh3 => ?_)
      · as_aux_lemma => kernel_rfl
      · -- usedB q.cabin = true
        have h3 := bh3
        refine RUN0 2 [13, 14, 15, 16, 17, 18, 19, 20, 21, 22, 23, 24, 25, 26, 27] [(1, .p 0 0), (3, .v (.func (.func 48) #[] #[])), (18, B true), (20, I q.from')] ?_ rfl ?_
        · as_aux_lemma => kernel_rfl
        refine OPC (CALL 15 #[vi q.from', vi (-1), vi 9999] (some 21) ?_ [] [] _ rfl (RV (.bool (inB q.from' (-1) 9999))) (fun w hw => within_c w q.from' (-1) 9999) (by rintro _ ⟨⟩; exact Nat.le_of_ble_eq_true rfl) ?_)
        · as_aux_lemma => kernel_rfl
        rintro ⟨⟩
        refine RUN0 2 [16, 17, 18, 19, 20, 21, 22, 23, 24, 25, 26, 27] [(1, .p 0 0), (3, .v (.func (.func 48) #[] #[])), (23, B (inB q.from' (-1) 9999))] ?_ rfl ?_
        · as_aux_lemma => kernel_rfl
        refine SPLIT (d := 23) (inB q.from' (-1) 9999) ?_ (fun bh4 => ?_) (fun bh4 => ?_)
        · as_aux_lemma => kernel_rfl
        · -- inB q.from' (-1) 9999 = true
          have h4 := bh4
          refine RUN0 3 [19, 20, 21, 22, 23, 24, 25, 26, 27] [(1, .p 0 0), (3, .v (.func (.func 48) #[] #[])), (23, B true), (24, .v (.func (.func 48) #[] #[])), (26, I q.size)] ?_ rfl ?_
          · as_aux_lemma => kernel_rfl
          refine OPC (CALL 48 #[vi q.size] (some 27) ?_ [] [] _ rfl (RV (.bool (usedB q.size))) (fun w hw => iReqOk1_c w q.size) (by rintro _ ⟨⟩; exact Nat.le_of_ble_eq_true rfl) ?_)
          · as_aux_lemma => kernel_rfl
          rintro ⟨⟩
          refine RUN0 2 [22, 23, 24, 25, 26, 27] [(1, .p 0 0), (3, .v (.func (.func 48) #[] #[])), (29, B (usedB q.size))] ?_ rfl ?_
          · as_aux_lemma => kernel_rfl
          refine SPLIT (d := 29) (usedB q.size) ?_ (fun bh5 => ?_) (fun bh5 => ?_)
          · as_aux_lemma => kernel_rfl
          · -- usedB q.size = true
            have h5 := bh5
            refine RUN0 3 [25, 26, 27] [(29, B true), (30, .v (.func (.func 48) #[] #[])), (32, I q.tier)] ?_ rfl ?_
            · as_aux_lemma => kernel_rfl
            refine OPC (CALL 48 #[vi q.tier] (some 33) ?_ [] [] _ rfl (RV (.bool (usedB q.tier))) (fun w hw => iReqOk1_c w q.tier) (by rintro _ ⟨⟩; exact Nat.le_of_ble_eq_true rfl) ?_)
            · as_aux_lemma => kernel_rfl
            rintro ⟨⟩
            refine RUN0 2 [] [(2, B (usedB q.tier))] ?_ rfl ?_
            · as_aux_lemma => kernel_rfl
            refine ENDOPS (NEXT (RET (OUTR (PASS trivial (FIN (.bool (usedB q.tier)) ?_ () ?_ [] ?_)))))
            · as_aux_lemma => kernel_rfl
            · simp [RV, reqOk, reqEq, *]
            · rfl
          · -- usedB q.size = false
            have h5 := bh5
            refine RUN0 6 [] [(2, B false)] ?_ rfl ?_
            · as_aux_lemma => kernel_rfl
            refine ENDOPS (NEXT (RET (OUTR (PASS trivial (FIN (.bool false) ?_ () ?_ [] ?_)))))
            · as_aux_lemma => kernel_rfl
            · simp [RV, reqOk, reqEq, *]
            · rfl
        · -- inB q.from' (-1) 9999 = false
          have h4 := bh4
          refine RUN0 12 [] [(2, B false)] ?_ rfl ?_
          · as_aux_lemma => kernel_rfl
          refine ENDOPS (NEXT (RET (OUTR (PASS trivial (FIN (.bool false) ?_ () ?_ [] ?_)))))
          · as_aux_lemma => kernel_rfl
          · simp [RV, reqOk, reqEq, *]
          · rfl
      · -- usedB q.cabin = false
        have h3 := bh3
        refine RUN0 17 [] [(2, B false)] ?_ rfl ?_
        · as_aux_lemma => kernel_rfl
        refine ENDOPS (NEXT (RET (OUTR (PASS trivial (FIN (.bool false) ?_ () ?_ [] ?_)))))
        · as_aux_lemma => kernel_rfl
        · simp [RV, reqOk, reqEq, *]
        · rfl
    · -- usedB q.id = false
      have h2 := bh2
      refine RUN0 23 [] [(2, B false)] ?_ rfl ?_
      · as_aux_lemma => kernel_rfl
      refine ENDOPS (NEXT (RET (OUTR (PASS trivial (FIN (.bool false) ?_ () ?_ [] ?_)))))
      · as_aux_lemma => kernel_rfl
      · simp [RV, reqOk, reqEq, *]
      · rfl
  · -- q.kind == 1 = false
    have h1 := bh1
    have h1 := ne_of_beq_false h1
    refine SEQ (SEQ (REGION [0, 1] rfl (RUN0 2 [] [(1, .p 0 0), (3, .v (.func (.func 48) #[] #[])), (5, I q.kind), (35, B (q.kind == 2))] ?_ rfl ?_)))
    · as_aux_lemma => kernel_rfl
    refine ENDOPS (NEXT (IF (q.kind == 2) ?_ (fun bh6 => ?_) (fun bh6 => ?_)))
    · as_aux_lemma => kernel_rfl
    · -- q.kind == 2 = true
      have h6 := bh6
      have h6 := eq_of_beq h6
      refine SKIP (NEXT (IF (q.kind == 2) ?_ (fun bh7 => ?_) (fun bh7 => ?_)))
      · as_aux_lemma => kernel_rfl
      · -- q.kind == 2 = true
        have h7 := bh7
        have h7 := eq_of_beq h7
        refine SEQ (REGION [0, 1, 2, 3, 4, 5, 6, 7, 8, 9, 10, 11, 12, 13] rfl (RUN0 3 [3, 4, 5, 6, 7, 8, 9, 10, 11, 12, 13] [(1, .p 0 0), (40, .v (.func (.func 48) #[] #[])), (42, I q.id)] ?_ rfl ?_))
        · as_aux_lemma => kernel_rfl
        refine OPC (CALL 48 #[vi q.id] (some 43) ?_ [] [] _ rfl (RV (.bool (usedB q.id))) (fun w hw => iReqOk1_c w q.id) (by rintro _ ⟨⟩; exact Nat.le_of_ble_eq_true rfl) ?_)
        · as_aux_lemma => kernel_rfl
        rintro ⟨⟩
        refine RUN0 1 [5, 6, 7, 8, 9, 10, 11, 12, 13] [(1, .p 0 0), (44, B (usedB q.id))] ?_ rfl ?_
        · as_aux_lemma => kernel_rfl
        refine SPLIT (d := 44) (usedB q.id) ?_ (fun bh8 => ?_) (fun bh8 => ?_)
        · as_aux_lemma => kernel_rfl
        · -- usedB q.id = true
          have h8 := bh8
          refine RUN0 6 [11, 12, 13] [(44, B true), (45, .v (.agg #[vi q.kind, vi q.id, vi q.cabin, vi q.from', vi q.size, vi q.tier])), (50, .v (.agg #[vi q.kind, vi q.id, vi 0, vi 0, vi 0, vi 0]))] ?_ rfl ?_
          · as_aux_lemma => kernel_rfl
          refine OPC (RUNV (.binOp .eql 25 (.tmp 45) (.tmp 50) 25) 51 4 ?_ (Nat.le_of_ble_eq_true rfl) (.bool ((q.kind == q.kind) && ((q.id == q.id) && ((q.cabin == 0) && ((q.from' == 0) && ((q.size == 0) && ((q.tier == 0) && true))))))) (runs_eql (xs := [vi q.kind, vi q.id, vi q.cabin, vi q.from', vi q.size, vi q.tier]) (ys := [vi q.kind, vi q.id, vi 0, vi 0, vi 0, vi 0]) (r := (q.kind == q.kind) && ((q.id == q.id) && ((q.cabin == 0) && ((q.from' == 0) && ((q.size == 0) && ((q.tier == 0) && true)))))) ?_ ?_ ?_) ?_)
          · as_aux_lemma => kernel_rfl
          · as_aux_lemma => kernel_rfl
          · as_aux_lemma => kernel_rfl
          · as_aux_lemma => kernel_rfl
          refine RUN0 2 [] [(2, B ((q.kind == q.kind) && ((q.id == q.id) && ((q.cabin == 0) && ((q.from' == 0) && ((q.size == 0) && ((q.tier == 0) && true)))))))] ?_ rfl ?_
          · as_aux_lemma => kernel_rfl
          refine ENDOPS (NEXT (RET (OUTR (PASS trivial (FIN (.bool ((q.kind == q.kind) && ((q.id == q.id) && ((q.cabin == 0) && ((q.from' == 0) && ((q.size == 0) && ((q.tier == 0) && true))))))) ?_ () ?_ [] ?_)))))
          · as_aux_lemma => kernel_rfl
          · simp [RV, reqOk, reqEq, *]
          · rfl
        · -- usedB q.id = false
          have h8 := bh8
          refine RUN0 9 [] [(2, B false)] ?_ rfl ?_
          · as_aux_lemma => kernel_rfl
          refine ENDOPS (NEXT (RET (OUTR (PASS trivial (FIN (.bool false) ?_ () ?_ [] ?_)))))
          · as_aux_lemma => kernel_rfl
          · simp [RV, reqOk, reqEq, *]
          · rfl
      · exact Bool.noConfusion (bh6.symm.trans bh7)
    · -- q.kind == 2 = false
      have h6 := bh6
      have h6 := ne_of_beq_false h6
      refine SEQ (REGION [0, 1] rfl (RUN0 2 [] [(1, .p 0 0), (3, .v (.func (.func 48) #[] #[])), (5, I q.kind), (35, B (q.kind == 4))] ?_ rfl ?_))
      · as_aux_lemma => kernel_rfl
      refine ENDOPS (NEXT (IF (q.kind == 4) ?_ (fun bh9 => ?_) (fun bh9 => ?_)))
      · as_aux_lemma => kernel_rfl
      · -- q.kind == 4 = true
        have h9 := bh9
        have h9 := eq_of_beq h9
        refine SKIP (NEXT (IF (q.kind == 4) ?_ (fun bh10 => ?_) (fun bh10 => ?_)))
        · as_aux_lemma => kernel_rfl
        · -- q.kind == 4 = true
          have h10 := bh10
          have h10 := eq_of_beq h10
          refine SEQ (REGION [0, 1, 2, 3, 4, 5, 6, 7, 8, 9, 10, 11, 12, 13] rfl (RUN0 3 [3, 4, 5, 6, 7, 8, 9, 10, 11, 12, 13] [(1, .p 0 0), (40, .v (.func (.func 48) #[] #[])), (42, I q.id)] ?_ rfl ?_))
          · as_aux_lemma => kernel_rfl
          refine OPC (CALL 48 #[vi q.id] (some 43) ?_ [] [] _ rfl (RV (.bool (usedB q.id))) (fun w hw => iReqOk1_c w q.id) (by rintro _ ⟨⟩; exact Nat.le_of_ble_eq_true rfl) ?_)
          · as_aux_lemma => kernel_rfl
          rintro ⟨⟩
          refine RUN0 1 [5, 6, 7, 8, 9, 10, 11, 12, 13] [(1, .p 0 0), (44, B (usedB q.id))] ?_ rfl ?_
          · as_aux_lemma => kernel_rfl
          refine SPLIT (d := 44) (usedB q.id) ?_ (fun bh11 => ?_) (fun bh11 => ?_)
          · as_aux_lemma => kernel_rfl
          · -- usedB q.id = true
            have h11 := bh11
            refine RUN0 6 [11, 12, 13] [(44, B true), (45, .v (.agg #[vi q.kind, vi q.id, vi q.cabin, vi q.from', vi q.size, vi q.tier])), (50, .v (.agg #[vi q.kind, vi q.id, vi 0, vi 0, vi 0, vi 0]))] ?_ rfl ?_
            · as_aux_lemma => kernel_rfl
            refine OPC (RUNV (.binOp .eql 25 (.tmp 45) (.tmp 50) 25) 51 4 ?_ (Nat.le_of_ble_eq_true rfl) (.bool ((q.kind == q.kind) && ((q.id == q.id) && ((q.cabin == 0) && ((q.from' == 0) && ((q.size == 0) && ((q.tier == 0) && true))))))) (runs_eql (xs := [vi q.kind, vi q.id, vi q.cabin, vi q.from', vi q.size, vi q.tier]) (ys := [vi q.kind, vi q.id, vi 0, vi 0, vi 0, vi 0]) (r := (q.kind == q.kind) && ((q.id == q.id) && ((q.cabin == 0) && ((q.from' == 0) && ((q.size == 0) && ((q.tier == 0) && true)))))) ?_ ?_ ?_) ?_)
            · as_aux_lemma => kernel_rfl
            · as_aux_lemma => kernel_rfl
            · as_aux_lemma => kernel_rfl
            · as_aux_lemma => kernel_rfl
            refine RUN0 2 [] [(2, B ((q.kind == q.kind) && ((q.id == q.id) && ((q.cabin == 0) && ((q.from' == 0) && ((q.size == 0) && ((q.tier == 0) && true)))))))] ?_ rfl ?_
            · as_aux_lemma => kernel_rfl
            refine ENDOPS (NEXT (RET (OUTR (PASS trivial (FIN (.bool ((q.kind == q.kind) && ((q.id == q.id) && ((q.cabin == 0) && ((q.from' == 0) && ((q.size == 0) && ((q.tier == 0) && true))))))) ?_ () ?_ [] ?_)))))
            · as_aux_lemma => kernel_rfl
            · simp [RV, reqOk, reqEq, *]
            · rfl
          · -- usedB q.id = false
            have h11 := bh11
            refine RUN0 9 [] [(2, B false)] ?_ rfl ?_
            · as_aux_lemma => kernel_rfl
            refine ENDOPS (NEXT (RET (OUTR (PASS trivial (FIN (.bool false) ?_ () ?_ [] ?_)))))
            · as_aux_lemma => kernel_rfl
            · simp [RV, reqOk, reqEq, *]
            · rfl
        · exact Bool.noConfusion (bh9.symm.trans bh10)
      · -- q.kind == 4 = false
        have h9 := bh9
        have h9 := ne_of_beq_false h9
        refine SEQ (REGION [0, 1] rfl (RUN0 2 [] [(1, .p 0 0), (3, .v (.func (.func 48) #[] #[])), (5, I q.kind), (35, B (q.kind == 5))] ?_ rfl ?_))
        · as_aux_lemma => kernel_rfl
        refine ENDOPS (NEXT (IF (q.kind == 5) ?_ (fun bh12 => ?_) (fun bh12 => ?_)))
        · as_aux_lemma => kernel_rfl
        · -- q.kind == 5 = true
          have h12 := bh12
          have h12 := eq_of_beq h12
          refine SKIP (NEXT (IF (q.kind == 5) ?_ (fun bh13 => ?_) (fun bh13 => ?_)))
          · as_aux_lemma => kernel_rfl
          · -- q.kind == 5 = true
            have h13 := bh13
            have h13 := eq_of_beq h13
            refine SEQ (REGION [0, 1, 2, 3, 4, 5, 6, 7, 8, 9, 10, 11, 12, 13] rfl (RUN0 3 [3, 4, 5, 6, 7, 8, 9, 10, 11, 12, 13] [(1, .p 0 0), (40, .v (.func (.func 48) #[] #[])), (42, I q.id)] ?_ rfl ?_))
            · as_aux_lemma => kernel_rfl
            refine OPC (CALL 48 #[vi q.id] (some 43) ?_ [] [] _ rfl (RV (.bool (usedB q.id))) (fun w hw => iReqOk1_c w q.id) (by rintro _ ⟨⟩; exact Nat.le_of_ble_eq_true rfl) ?_)
            · as_aux_lemma => kernel_rfl
            rintro ⟨⟩
            refine RUN0 1 [5, 6, 7, 8, 9, 10, 11, 12, 13] [(1, .p 0 0), (44, B (usedB q.id))] ?_ rfl ?_
            · as_aux_lemma => kernel_rfl
            refine SPLIT (d := 44) (usedB q.id) ?_ (fun bh14 => ?_) (fun bh14 => ?_)
            · as_aux_lemma => kernel_rfl
            · -- usedB q.id = true
              have h14 := bh14
              refine RUN0 6 [11, 12, 13] [(44, B true), (45, .v (.agg #[vi q.kind, vi q.id, vi q.cabin, vi q.from', vi q.size, vi q.tier])), (50, .v (.agg #[vi q.kind, vi q.id, vi 0, vi 0, vi 0, vi 0]))] ?_ rfl ?_
              · as_aux_lemma => kernel_rfl
              refine OPC (RUNV (.binOp .eql 25 (.tmp 45) (.tmp 50) 25) 51 4 ?_ (Nat.le_of_ble_eq_true rfl) (.bool ((q.kind == q.kind) && ((q.id == q.id) && ((q.cabin == 0) && ((q.from' == 0) && ((q.size == 0) && ((q.tier == 0) && true))))))) (runs_eql (xs := [vi q.kind, vi q.id, vi q.cabin, vi q.from', vi q.size, vi q.tier]) (ys := [vi q.kind, vi q.id, vi 0, vi 0, vi 0, vi 0]) (r := (q.kind == q.kind) && ((q.id == q.id) && ((q.cabin == 0) && ((q.from' == 0) && ((q.size == 0) && ((q.tier == 0) && true)))))) ?_ ?_ ?_) ?_)
              · as_aux_lemma => kernel_rfl
              · as_aux_lemma => kernel_rfl
              · as_aux_lemma => kernel_rfl
              · as_aux_lemma => kernel_rfl
              refine RUN0 2 [] [(2, B ((q.kind == q.kind) && ((q.id == q.id) && ((q.cabin == 0) && ((q.from' == 0) && ((q.size == 0) && ((q.tier == 0) && true)))))))] ?_ rfl ?_
              · as_aux_lemma => kernel_rfl
              refine ENDOPS (NEXT (RET (OUTR (PASS trivial (FIN (.bool ((q.kind == q.kind) && ((q.id == q.id) && ((q.cabin == 0) && ((q.from' == 0) && ((q.size == 0) && ((q.tier == 0) && true))))))) ?_ () ?_ [] ?_)))))
              · as_aux_lemma => kernel_rfl
              · simp [RV, reqOk, reqEq, *]
              · rfl
            · -- usedB q.id = false
              have h14 := bh14
              refine RUN0 9 [] [(2, B false)] ?_ rfl ?_
              · as_aux_lemma => kernel_rfl
              refine ENDOPS (NEXT (RET (OUTR (PASS trivial (FIN (.bool false) ?_ () ?_ [] ?_)))))
              · as_aux_lemma => kernel_rfl
              · simp [RV, reqOk, reqEq, *]
              · rfl
          · exact Bool.noConfusion (bh12.symm.trans bh13)
        · -- q.kind == 5 = false
          have h12 := bh12
          have h12 := ne_of_beq_false h12
          refine REGION [0, 1] rfl (RUN0 2 [] [(1, .p 0 0), (3, .v (.func (.func 48) #[] #[])), (5, I q.kind), (35, B (q.kind == 7))] ?_ rfl ?_)
          · as_aux_lemma => kernel_rfl
          refine ENDOPS (NEXT (IF (q.kind == 7) ?_ (fun bh15 => ?_) (fun bh15 => ?_)))
          · as_aux_lemma => kernel_rfl
          · -- q.kind == 7 = true
            have h15 := bh15
            have h15 := eq_of_beq h15
            refine SEQ (REGION [0, 1, 2, 3, 4, 5, 6, 7, 8, 9, 10, 11, 12, 13] rfl (RUN0 3 [3, 4, 5, 6, 7, 8, 9, 10, 11, 12, 13] [(1, .p 0 0), (40, .v (.func (.func 48) #[] #[])), (42, I q.id)] ?_ rfl ?_))
            · as_aux_lemma => kernel_rfl
            refine OPC (CALL 48 #[vi q.id] (some 43) ?_ [] [] _ rfl (RV (.bool (usedB q.id))) (fun w hw => iReqOk1_c w q.id) (by rintro _ ⟨⟩; exact Nat.le_of_ble_eq_true rfl) ?_)
            · as_aux_lemma => kernel_rfl
            rintro ⟨⟩
            refine RUN0 1 [5, 6, 7, 8, 9, 10, 11, 12, 13] [(1, .p 0 0), (44, B (usedB q.id))] ?_ rfl ?_
            · as_aux_lemma => kernel_rfl
            refine SPLIT (d := 44) (usedB q.id) ?_ (fun bh16 => ?_) (fun bh16 => ?_)
            · as_aux_lemma => kernel_rfl
            · -- usedB q.id = true
              have h16 := bh16
              refine RUN0 6 [11, 12, 13] [(44, B true), (45, .v (.agg #[vi q.kind, vi q.id, vi q.cabin, vi q.from', vi q.size, vi q.tier])), (50, .v (.agg #[vi q.kind, vi q.id, vi 0, vi 0, vi 0, vi 0]))] ?_ rfl ?_
              · as_aux_lemma => kernel_rfl
              refine OPC (RUNV (.binOp .eql 25 (.tmp 45) (.tmp 50) 25) 51 4 ?_ (Nat.le_of_ble_eq_true rfl) (.bool ((q.kind == q.kind) && ((q.id == q.id) && ((q.cabin == 0) && ((q.from' == 0) && ((q.size == 0) && ((q.tier == 0) && true))))))) (runs_eql (xs := [vi q.kind, vi q.id, vi q.cabin, vi q.from', vi q.size, vi q.tier]) (ys := [vi q.kind, vi q.id, vi 0, vi 0, vi 0, vi 0]) (r := (q.kind == q.kind) && ((q.id == q.id) && ((q.cabin == 0) && ((q.from' == 0) && ((q.size == 0) && ((q.tier == 0) && true)))))) ?_ ?_ ?_) ?_)
              · as_aux_lemma => kernel_rfl
              · as_aux_lemma => kernel_rfl
              · as_aux_lemma => kernel_rfl
              · as_aux_lemma => kernel_rfl
              refine RUN0 2 [] [(2, B ((q.kind == q.kind) && ((q.id == q.id) && ((q.cabin == 0) && ((q.from' == 0) && ((q.size == 0) && ((q.tier == 0) && true)))))))] ?_ rfl ?_
              · as_aux_lemma => kernel_rfl
              refine ENDOPS (NEXT (RET (OUTR (PASS trivial (FIN (.bool ((q.kind == q.kind) && ((q.id == q.id) && ((q.cabin == 0) && ((q.from' == 0) && ((q.size == 0) && ((q.tier == 0) && true))))))) ?_ () ?_ [] ?_)))))
              · as_aux_lemma => kernel_rfl
              · simp [RV, reqOk, reqEq, *]
              · rfl
            · -- usedB q.id = false
              have h16 := bh16
              refine RUN0 9 [] [(2, B false)] ?_ rfl ?_
              · as_aux_lemma => kernel_rfl
              refine ENDOPS (NEXT (RET (OUTR (PASS trivial (FIN (.bool false) ?_ () ?_ [] ?_)))))
              · as_aux_lemma => kernel_rfl
              · simp [RV, reqOk, reqEq, *]
              · rfl
          · -- q.kind == 7 = false
            have h15 := bh15
            have h15 := ne_of_beq_false h15
            refine SEQ (REGION [0, 1] rfl (RUN0 2 [] [(1, .p 0 0), (3, .v (.func (.func 48) #[] #[])), (5, I q.kind), (53, B (q.kind == 3))] ?_ rfl ?_))
            · as_aux_lemma => kernel_rfl
            refine ENDOPS (NEXT (IF (q.kind == 3) ?_ (fun bh17 => ?_) (fun bh17 => ?_)))
            · as_aux_lemma => kernel_rfl
            · -- q.kind == 3 = true
              have h17 := bh17
              have h17 := eq_of_beq h17
              refine SEQ (REGION [0, 1, 2, 3, 4, 5, 6, 7, 8, 9, 10, 11, 12, 13, 14, 15, 16, 17, 18, 19, 20, 21] rfl (RUN0 3 [3, 4, 5, 6, 7, 8, 9, 10, 11, 12, 13, 14, 15, 16, 17, 18, 19, 20, 21] [(1, .p 0 0), (3, .v (.func (.func 48) #[] #[])), (55, .v (.func (.func 48) #[] #[])), (57, I q.cabin)] ?_ rfl ?_))
              · as_aux_lemma => kernel_rfl
              refine OPC (CALL 48 #[vi q.cabin] (some 58) ?_ [] [] _ rfl (RV (.bool (usedB q.cabin))) (fun w hw => iReqOk1_c w q.cabin) (by rintro _ ⟨⟩; exact Nat.le_of_ble_eq_true rfl) ?_)
              · as_aux_lemma => kernel_rfl
              rintro ⟨⟩
              refine RUN0 1 [5, 6, 7, 8, 9, 10, 11, 12, 13, 14, 15, 16, 17, 18, 19, 20, 21] [(1, .p 0 0), (3, .v (.func (.func 48) #[] #[])), (59, B (usedB q.cabin))] ?_ rfl ?_
              · as_aux_lemma => kernel_rfl
              refine SPLIT (d := 59) (usedB q.cabin) ?_ (fun bh18 => ?_) (fun bh18 => ?_)
              · as_aux_lemma => kernel_rfl
              · -- usedB q.cabin = true
                have h18 := bh18
                refine RUN0 3 [8, 9, 10, 11, 12, 13, 14, 15, 16, 17, 18, 19, 20, 21] [(1, .p 0 0), (59, B true), (60, .v (.func (.func 48) #[] #[])), (62, I q.size)] ?_ rfl ?_
                · as_aux_lemma => kernel_rfl
                refine OPC (CALL 48 #[vi q.size] (some 63) ?_ [] [] _ rfl (RV (.bool (usedB q.size))) (fun w hw => iReqOk1_c w q.size) (by rintro _ ⟨⟩; exact Nat.le_of_ble_eq_true rfl) ?_)
                · as_aux_lemma => kernel_rfl
                rintro ⟨⟩
                refine RUN0 2 [11, 12, 13, 14, 15, 16, 17, 18, 19, 20, 21] [(1, .p 0 0), (65, B (usedB q.size))] ?_ rfl ?_
                · as_aux_lemma => kernel_rfl
                refine SPLIT (d := 65) (usedB q.size) ?_ (fun bh19 => ?_) (fun bh19 => ?_)
                · as_aux_lemma => kernel_rfl
                · -- usedB q.size = true
                  have h19 := bh19
                  refine RUN0 8 [19, 20, 21] [(65, B true), (66, .v (.agg #[vi q.kind, vi q.id, vi q.cabin, vi q.from', vi q.size, vi q.tier])), (73, .v (.agg #[vi q.kind, vi 0, vi q.cabin, vi 0, vi q.size, vi 0]))] ?_ rfl ?_
                  · as_aux_lemma => kernel_rfl
                  refine OPC (RUNV (.binOp .eql 25 (.tmp 66) (.tmp 73) 25) 74 4 ?_ (Nat.le_of_ble_eq_true rfl) (.bool ((q.kind == q.kind) && ((q.id == 0) && ((q.cabin == q.cabin) && ((q.from' == 0) && ((q.size == q.size) && ((q.tier == 0) && true))))))) (runs_eql (xs := [vi q.kind, vi q.id, vi q.cabin, vi q.from', vi q.size, vi q.tier]) (ys := [vi q.kind, vi 0, vi q.cabin, vi 0, vi q.size, vi 0]) (r := (q.kind == q.kind) && ((q.id == 0) && ((q.cabin == q.cabin) && ((q.from' == 0) && ((q.size == q.size) && ((q.tier == 0) && true)))))) ?_ ?_ ?_) ?_)
                  · as_aux_lemma => kernel_rfl
                  · as_aux_lemma => kernel_rfl
                  · as_aux_lemma => kernel_rfl
                  · as_aux_lemma => kernel_rfl
                  refine RUN0 2 [] [(2, B ((q.kind == q.kind) && ((q.id == 0) && ((q.cabin == q.cabin) && ((q.from' == 0) && ((q.size == q.size) && ((q.tier == 0) && true)))))))] ?_ rfl ?_
                  · as_aux_lemma => kernel_rfl
                  refine ENDOPS (NEXT (RET (OUTR (PASS trivial (FIN (.bool ((q.kind == q.kind) && ((q.id == 0) && ((q.cabin == q.cabin) && ((q.from' == 0) && ((q.size == q.size) && ((q.tier == 0) && true))))))) ?_ () ?_ [] ?_)))))
                  · as_aux_lemma => kernel_rfl
                  · simp [RV, reqOk, reqEq, *]
                  · rfl
                · -- usedB q.size = false
                  have h19 := bh19
                  refine RUN0 11 [] [(2, B false)] ?_ rfl ?_
                  · as_aux_lemma => kernel_rfl
                  refine ENDOPS (NEXT (RET (OUTR (PASS trivial (FIN (.bool false) ?_ () ?_ [] ?_)))))
                  · as_aux_lemma => kernel_rfl
                  · simp [RV, reqOk, reqEq, *]
                  · rfl
              · -- usedB q.cabin = false
                have h18 := bh18
                refine RUN0 17 [] [(2, B false)] ?_ rfl ?_
                · as_aux_lemma => kernel_rfl
                refine ENDOPS (NEXT (RET (OUTR (PASS trivial (FIN (.bool false) ?_ () ?_ [] ?_)))))
                · as_aux_lemma => kernel_rfl
                · simp [RV, reqOk, reqEq, *]
                · rfl
            · -- q.kind == 3 = false
              have h17 := bh17
              have h17 := ne_of_beq_false h17
              refine SEQ (REGION [0, 1] rfl (RUN0 2 [] [(1, .p 0 0), (76, B (q.kind == 6))] ?_ rfl ?_))
              · as_aux_lemma => kernel_rfl
              refine ENDOPS (NEXT (IF (q.kind == 6) ?_ (fun bh20 => ?_) (fun bh20 => ?_)))
              · as_aux_lemma => kernel_rfl
              · -- q.kind == 6 = true
                have h20 := bh20
                have h20 := eq_of_beq h20
                refine SEQ (REGION [0, 1, 2, 3] rfl (RUN0 2 [2, 3] [(78, .v (.agg #[vi q.kind, vi q.id, vi q.cabin, vi q.from', vi q.size, vi q.tier])), (79, .v (.agg #[vi 6, vi 0, vi 0, vi 0, vi 0, vi 0]))] ?_ rfl ?_))
                · as_aux_lemma => kernel_rfl
                refine OPC (RUNV (.binOp .eql 25 (.tmp 78) (.tmp 79) 25) 80 4 ?_ (Nat.le_of_ble_eq_true rfl) (.bool ((q.kind == 6) && ((q.id == 0) && ((q.cabin == 0) && ((q.from' == 0) && ((q.size == 0) && ((q.tier == 0) && true))))))) (runs_eql (xs := [vi q.kind, vi q.id, vi q.cabin, vi q.from', vi q.size, vi q.tier]) (ys := [vi 6, vi 0, vi 0, vi 0, vi 0, vi 0]) (r := (q.kind == 6) && ((q.id == 0) && ((q.cabin == 0) && ((q.from' == 0) && ((q.size == 0) && ((q.tier == 0) && true)))))) ?_ ?_ ?_) ?_)
                · as_aux_lemma => kernel_rfl
                · as_aux_lemma => kernel_rfl
                · as_aux_lemma => kernel_rfl
                · as_aux_lemma => kernel_rfl
                refine RUN0 1 [] [(2, B ((q.kind == 6) && ((q.id == 0) && ((q.cabin == 0) && ((q.from' == 0) && ((q.size == 0) && ((q.tier == 0) && true)))))))] ?_ rfl ?_
                · as_aux_lemma => kernel_rfl
                refine ENDOPS (NEXT (RET (OUTR (PASS trivial (FIN (.bool ((q.kind == 6) && ((q.id == 0) && ((q.cabin == 0) && ((q.from' == 0) && ((q.size == 0) && ((q.tier == 0) && true))))))) ?_ () ?_ [] ?_)))))
                · as_aux_lemma => kernel_rfl
                · simp [RV, reqOk, reqEq, *]
                · rfl
              · -- q.kind == 6 = false
                have h20 := bh20
                have h20 := ne_of_beq_false h20
                refine SKIP (OUTN (NEXT (SEQ (REGION [0] rfl (RUN0 1 [] [(2, B false)] ?_ rfl ?_)))))
                · as_aux_lemma => kernel_rfl
                refine ENDOPS (NEXT (RET (FIN (.bool false) ?_ () ?_ [] ?_)))
                · as_aux_lemma => kernel_rfl
                · simp [RV, reqOk, reqEq, *]
                · rfl

theorem sReqOk_c (W : World) (q : Req) : Spec Try.prog W [] 42 #[.agg #[vi q.kind, vi q.id, vi q.cabin, vi q.from', vi q.size, vi q.tier]] (RV (.bool (reqOk q))) := by
  refine ENTER0 (N := 75) (vs := [.agg #[vi q.kind, vi q.id, vi q.cabin, vi q.from', vi q.size, vi q.tier]]) Try.func42 rfl rfl (Nat.le_of_ble_eq_true rfl) ?_
  refine SEQ (REGION [0, 1] rfl (RUN 2 [] [(1, .p 0 0)] [(25, [vi q.kind, vi q.id, vi q.cabin, vi q.from', vi q.size, vi q.tier])] ?_ rfl ?_))
  · as_aux_lemma => kernel_rfl
  refine ENDOPS (NEXT (SEQ (SEQ (REGION [0, 1] rfl (RUN0 2 [] [(1, .p 0 0), (4, I q.kind)] ?_ rfl ?_)))))
  · as_aux_lemma => kernel_rfl
  refine ENDOPS (NEXT (BLOCK (SEQ (REGION [0, 1] rfl (RUN0 2 [] [(1, .p 0 0), (4, I q.kind), (5, B (q.kind == 1))] ?_ rfl ?_)))))
  · as_aux_lemma => kernel_rfl
  refine ENDOPS (NEXT (IF (q.kind == 1) ?_ (fun bh1 => ?_) (fun bh1 => ?_)))
  · as_aux_lemma => kernel_rfl
  · -- q.kind == 1 = true
    have h1 := bh1
    have h1 := eq_of_beq h1
    refine SEQ (REGION [0, 1, 2, 3, 4, 5, 6, 7, 8, 9, 10, 11, 12, 13, 14, 15, 16, 17, 18, 19, 20, 21, 22, 23] rfl (RUN0 2 [2, 3, 4, 5, 6, 7, 8, 9, 10, 11, 12, 13, 14, 15, 16, 17, 18, 19, 20, 21, 22, 23] [(1, .p 0 0), (8, I q.id)] ?_ rfl ?_))
    · as_aux_lemma => kernel_rfl
    refine OPC (CALL 59 #[vi q.id] (some 9) ?_ [] [] _ rfl (RV (.bool (usedB q.id))) (fun w hw => l12Field_c w q.id) (by rintro _ ⟨⟩; exact Nat.le_of_ble_eq_true rfl) ?_)
    · as_aux_lemma => kernel_rfl
    rintro ⟨⟩
    refine RUN0 1 [4, 5, 6, 7, 8, 9, 10, 11, 12, 13, 14, 15, 16, 17, 18, 19, 20, 21, 22, 23] [(1, .p 0 0), (10, B (usedB q.id))] ?_ rfl ?_
    · as_aux_lemma => kernel_rfl
    refine SPLIT (d := 10) (usedB q.id) ?_ (fun bh2 => ?_) (fun bh2 => ?_)
    · as_aux_lemma => kernel_rfl
    · -- usedB q.id = true
      have h2 := bh2
      refine RUN0 2 [6, 7, 8, 9, 10, 11, 12, 13, 14, 15, 16, 17, 18, 19, 20, 21, 22, 23] [(1, .p 0 0), (10, B true), (12, I q.cabin)] ?_ rfl ?_
      · as_aux_lemma => kernel_rfl
      refine OPC (CALL 59 #[vi q.cabin] (some 13) ?_ [] [] _ rfl (RV (.bool (usedB q.cabin))) (fun w hw => l12Field_c w q.cabin) (by rintro _ ⟨⟩; exact Nat.le_of_ble_eq_true rfl) ?_)
      · as_aux_lemma => kernel_rfl
      rintro ⟨⟩
      refine RUN0 2 [9, 10, 11, 12, 13, 14, 15, 16, 17, 18, 19, 20, 21, 22, 23] [(1, .p 0 0), (15, B (usedB q.cabin))] ?_ rfl ?_
      · as_aux_lemma => kernel_rfl
      refine SPLIT (d := 15) (usedB q.cabin) ?_ (fun bh3 => ?_) (fun bh3 => ?_)
      · as_aux_lemma => kernel_rfl
      · -- usedB q.cabin = true
        have h3 := bh3
        refine RUN0 2 [11, 12, 13, 14, 15, 16, 17, 18, 19, 20, 21, 22, 23] [(1, .p 0 0), (15, B true), (17, I q.from')] ?_ rfl ?_
        · as_aux_lemma => kernel_rfl
        refine OPC (CALL 44 #[vi q.from', vi (-1), vi 9999] (some 18) ?_ [] [] _ rfl (RV (.bool (inB q.from' (-1) 9999))) (fun w hw => l1In_c w q.from' (-1) 9999) (by rintro _ ⟨⟩; exact Nat.le_of_ble_eq_true rfl) ?_)
        · as_aux_lemma => kernel_rfl
        rintro ⟨⟩
        refine RUN0 2 [14, 15, 16, 17, 18, 19, 20, 21, 22, 23] [(1, .p 0 0), (20, B (inB q.from' (-1) 9999))] ?_ rfl ?_
        · as_aux_lemma => kernel_rfl
        refine SPLIT (d := 20) (inB q.from' (-1) 9999) ?_ (fun bh4 => ?_) (fun bh4 => ?_)
        · as_aux_lemma => kernel_rfl
        · -- inB q.from' (-1) 9999 = true
          have h4 := bh4
          refine RUN0 2 [16, 17, 18, 19, 20, 21, 22, 23] [(1, .p 0 0), (20, B true), (22, I q.size)] ?_ rfl ?_
          · as_aux_lemma => kernel_rfl
          refine OPC (CALL 59 #[vi q.size] (some 23) ?_ [] [] _ rfl (RV (.bool (usedB q.size))) (fun w hw => l12Field_c w q.size) (by rintro _ ⟨⟩; exact Nat.le_of_ble_eq_true rfl) ?_)
          · as_aux_lemma => kernel_rfl
          rintro ⟨⟩
          refine RUN0 2 [19, 20, 21, 22, 23] [(1, .p 0 0), (25, B (usedB q.size))] ?_ rfl ?_
          · as_aux_lemma => kernel_rfl
          refine SPLIT (d := 25) (usedB q.size) ?_ (fun bh5 => ?_) (fun bh5 => ?_)
          · as_aux_lemma => kernel_rfl
          · -- usedB q.size = true
            have h5 := bh5
            refine RUN0 2 [21, 22, 23] [(25, B true), (27, I q.tier)] ?_ rfl ?_
            · as_aux_lemma => kernel_rfl
            refine OPC (CALL 59 #[vi q.tier] (some 28) ?_ [] [] _ rfl (RV (.bool (usedB q.tier))) (fun w hw => l12Field_c w q.tier) (by rintro _ ⟨⟩; exact Nat.le_of_ble_eq_true rfl) ?_)
            · as_aux_lemma => kernel_rfl
            rintro ⟨⟩
            refine RUN0 2 [] [(2, B (usedB q.tier))] ?_ rfl ?_
            · as_aux_lemma => kernel_rfl
            refine ENDOPS (NEXT (RET (OUTR (PASS trivial (FIN (.bool (usedB q.tier)) ?_ () ?_ [] ?_)))))
            · as_aux_lemma => kernel_rfl
            · simp [RV, reqOk, reqEq, *]
            · rfl
          · -- usedB q.size = false
            have h5 := bh5
            refine RUN0 5 [] [(2, B false)] ?_ rfl ?_
            · as_aux_lemma => kernel_rfl
            refine ENDOPS (NEXT (RET (OUTR (PASS trivial (FIN (.bool false) ?_ () ?_ [] ?_)))))
            · as_aux_lemma => kernel_rfl
            · simp [RV, reqOk, reqEq, *]
            · rfl
        · -- inB q.from' (-1) 9999 = false
          have h4 := bh4
          refine RUN0 10 [] [(2, B false)] ?_ rfl ?_
          · as_aux_lemma => kernel_rfl
          refine ENDOPS (NEXT (RET (OUTR (PASS trivial (FIN (.bool false) ?_ () ?_ [] ?_)))))
          · as_aux_lemma => kernel_rfl
          · simp [RV, reqOk, reqEq, *]
          · rfl
      · -- usedB q.cabin = false
        have h3 := bh3
        refine RUN0 15 [] [(2, B false)] ?_ rfl ?_
        · as_aux_lemma => kernel_rfl
        refine ENDOPS (NEXT (RET (OUTR (PASS trivial (FIN (.bool false) ?_ () ?_ [] ?_)))))
        · as_aux_lemma => kernel_rfl
        · simp [RV, reqOk, reqEq, *]
        · rfl
    · -- usedB q.id = false
      have h2 := bh2
      refine RUN0 20 [] [(2, B false)] ?_ rfl ?_
      · as_aux_lemma => kernel_rfl
      refine ENDOPS (NEXT (RET (OUTR (PASS trivial (FIN (.bool false) ?_ () ?_ [] ?_)))))
      · as_aux_lemma => kernel_rfl
      · simp [RV, reqOk, reqEq, *]
      · rfl
  · -- q.kind == 1 = false
    have h1 := bh1
    have h1 := ne_of_beq_false h1
    refine SEQ (SEQ (REGION [0, 1] rfl (RUN0 2 [] [(1, .p 0 0), (4, I q.kind), (30, B (q.kind == 2))] ?_ rfl ?_)))
    · as_aux_lemma => kernel_rfl
    refine ENDOPS (NEXT (IF (q.kind == 2) ?_ (fun bh6 => ?_) (fun bh6 => ?_)))
    · as_aux_lemma => kernel_rfl
    · -- q.kind == 2 = true
      have h6 := bh6
      have h6 := eq_of_beq h6
      refine SKIP (NEXT (IF (q.kind == 2) ?_ (fun bh7 => ?_) (fun bh7 => ?_)))
      · as_aux_lemma => kernel_rfl
      · -- q.kind == 2 = true
        have h7 := bh7
        have h7 := eq_of_beq h7
        refine SEQ (REGION [0, 1, 2, 3, 4, 5, 6, 7, 8, 9, 10, 11, 12] rfl (RUN0 2 [2, 3, 4, 5, 6, 7, 8, 9, 10, 11, 12] [(1, .p 0 0), (36, I q.id)] ?_ rfl ?_))
        · as_aux_lemma => kernel_rfl
        refine OPC (CALL 59 #[vi q.id] (some 37) ?_ [] [] _ rfl (RV (.bool (usedB q.id))) (fun w hw => l12Field_c w q.id) (by rintro _ ⟨⟩; exact Nat.le_of_ble_eq_true rfl) ?_)
        · as_aux_lemma => kernel_rfl
        rintro ⟨⟩
        refine RUN0 1 [4, 5, 6, 7, 8, 9, 10, 11, 12] [(1, .p 0 0), (38, B (usedB q.id))] ?_ rfl ?_
        · as_aux_lemma => kernel_rfl
        refine SPLIT (d := 38) (usedB q.id) ?_ (fun bh8 => ?_) (fun bh8 => ?_)
        · as_aux_lemma => kernel_rfl
        · -- usedB q.id = true
          have h8 := bh8
          refine RUN0 6 [10, 11, 12] [(38, B true), (39, .v (.agg #[vi q.kind, vi q.id, vi q.cabin, vi q.from', vi q.size, vi q.tier])), (44, .v (.agg #[vi q.kind, vi q.id, vi 0, vi 0, vi 0, vi 0]))] ?_ rfl ?_
          · as_aux_lemma => kernel_rfl
          refine OPC (RUNV (.binOp .eql 25 (.tmp 39) (.tmp 44) 25) 45 4 ?_ (Nat.le_of_ble_eq_true rfl) (.bool ((q.kind == q.kind) && ((q.id == q.id) && ((q.cabin == 0) && ((q.from' == 0) && ((q.size == 0) && ((q.tier == 0) && true))))))) (runs_eql (xs := [vi q.kind, vi q.id, vi q.cabin, vi q.from', vi q.size, vi q.tier]) (ys := [vi q.kind, vi q.id, vi 0, vi 0, vi 0, vi 0]) (r := (q.kind == q.kind) && ((q.id == q.id) && ((q.cabin == 0) && ((q.from' == 0) && ((q.size == 0) && ((q.tier == 0) && true)))))) ?_ ?_ ?_) ?_)
          · as_aux_lemma => kernel_rfl
          · as_aux_lemma => kernel_rfl
          · as_aux_lemma => kernel_rfl
          · as_aux_lemma => kernel_rfl
          refine RUN0 2 [] [(2, B ((q.kind == q.kind) && ((q.id == q.id) && ((q.cabin == 0) && ((q.from' == 0) && ((q.size == 0) && ((q.tier == 0) && true)))))))] ?_ rfl ?_
          · as_aux_lemma => kernel_rfl
          refine ENDOPS (NEXT (RET (OUTR (PASS trivial (FIN (.bool ((q.kind == q.kind) && ((q.id == q.id) && ((q.cabin == 0) && ((q.from' == 0) && ((q.size == 0) && ((q.tier == 0) && true))))))) ?_ () ?_ [] ?_)))))
          · as_aux_lemma => kernel_rfl
          · simp [RV, reqOk, reqEq, *]
          · rfl
        · -- usedB q.id = false
          have h8 := bh8
          refine RUN0 9 [] [(2, B false)] ?_ rfl ?_
          · as_aux_lemma => kernel_rfl
          refine ENDOPS (NEXT (RET (OUTR (PASS trivial (FIN (.bool false) ?_ () ?_ [] ?_)))))
          · as_aux_lemma => kernel_rfl
          · simp [RV, reqOk, reqEq, *]
          · rfl
      · exact Bool.noConfusion (bh6.symm.trans bh7)
    · -- q.kind == 2 = false
      have h6 := bh6
      have h6 := ne_of_beq_false h6
      refine SEQ (REGION [0, 1] rfl (RUN0 2 [] [(1, .p 0 0), (4, I q.kind), (30, B (q.kind == 4))] ?_ rfl ?_))
      · as_aux_lemma => kernel_rfl
      refine ENDOPS (NEXT (IF (q.kind == 4) ?_ (fun bh9 => ?_) (fun bh9 => ?_)))
      · as_aux_lemma => kernel_rfl
      · -- q.kind == 4 = true
        have h9 := bh9
        have h9 := eq_of_beq h9
        refine SKIP (NEXT (IF (q.kind == 4) ?_ (fun bh10 => ?_) (fun bh10 => ?_)))
        · as_aux_lemma => kernel_rfl
        · -- q.kind == 4 = true
          have h10 := bh10
          have h10 := eq_of_beq h10
          refine SEQ (REGION [0, 1, 2, 3, 4, 5, 6, 7, 8, 9, 10, 11, 12] rfl (RUN0 2 [2, 3, 4, 5, 6, 7, 8, 9, 10, 11, 12] [(1, .p 0 0), (36, I q.id)] ?_ rfl ?_))
          · as_aux_lemma => kernel_rfl
          refine OPC (CALL 59 #[vi q.id] (some 37) ?_ [] [] _ rfl (RV (.bool (usedB q.id))) (fun w hw => l12Field_c w q.id) (by rintro _ ⟨⟩; exact Nat.le_of_ble_eq_true rfl) ?_)
          · as_aux_lemma => kernel_rfl
          rintro ⟨⟩
          refine RUN0 1 [4, 5, 6, 7, 8, 9, 10, 11, 12] [(1, .p 0 0), (38, B (usedB q.id))] ?_ rfl ?_
          · as_aux_lemma => kernel_rfl
          refine SPLIT (d := 38) (usedB q.id) ?_ (fun bh11 => ?_) (fun bh11 => ?_)
          · as_aux_lemma => kernel_rfl
          · -- usedB q.id = true
            have h11 := bh11
            refine RUN0 6 [10, 11, 12] [(38, B true), (39, .v (.agg #[vi q.kind, vi q.id, vi q.cabin, vi q.from', vi q.size, vi q.tier])), (44, .v (.agg #[vi q.kind, vi q.id, vi 0, vi 0, vi 0, vi 0]))] ?_ rfl ?_
            · as_aux_lemma => kernel_rfl
            refine OPC (RUNV (.binOp .eql 25 (.tmp 39) (.tmp 44) 25) 45 4 ?_ (Nat.le_of_ble_eq_true rfl) (.bool ((q.kind == q.kind) && ((q.id == q.id) && ((q.cabin == 0) && ((q.from' == 0) && ((q.size == 0) && ((q.tier == 0) && true))))))) (runs_eql (xs := [vi q.kind, vi q.id, vi q.cabin, vi q.from', vi q.size, vi q.tier]) (ys := [vi q.kind, vi q.id, vi 0, vi 0, vi 0, vi 0]) (r := (q.kind == q.kind) && ((q.id == q.id) && ((q.cabin == 0) && ((q.from' == 0) && ((q.size == 0) && ((q.tier == 0) && true)))))) ?_ ?_ ?_) ?_)
            · as_aux_lemma => kernel_rfl
            · as_aux_lemma => kernel_rfl
            · as_aux_lemma => kernel_rfl
            · as_aux_lemma => kernel_rfl
            refine RUN0 2 [] [(2, B ((q.kind == q.kind) && ((q.id == q.id) && ((q.cabin == 0) && ((q.from' == 0) && ((q.size == 0) && ((q.tier == 0) && true)))))))] ?_ rfl ?_
            · as_aux_lemma => kernel_rfl
            refine ENDOPS (NEXT (RET (OUTR (PASS trivial (FIN (.bool ((q.kind == q.kind) && ((q.id == q.id) && ((q.cabin == 0) && ((q.from' == 0) && ((q.size == 0) && ((q.tier == 0) && true))))))) ?_ () ?_ [] ?_)))))
            · as_aux_lemma => kernel_rfl
            · simp [RV, reqOk, reqEq, *]
            · rfl
          · -- usedB q.id = false
            have h11 := bh11
            refine RUN0 9 [] [(2, B false)] ?_ rfl ?_
            · as_aux_lemma => kernel_rfl
            refine ENDOPS (NEXT (RET (OUTR (PASS trivial (FIN (.bool false) ?_ () ?_ [] ?_)))))
            · as_aux_lemma => kernel_rfl
            · simp [RV, reqOk, reqEq, *]
            · rfl
        · exact Bool.noConfusion (bh9.symm.trans bh10)
      · -- q.kind == 4 = false
        have h9 := bh9
        have h9 := ne_of_beq_false h9
        refine SEQ (REGION [0, 1] rfl (RUN0 2 [] [(1, .p 0 0), (4, I q.kind), (30, B (q.kind == 5))] ?_ rfl ?_))
        · as_aux_lemma => kernel_rfl
        refine ENDOPS (NEXT (IF (q.kind == 5) ?_ (fun bh12 => ?_) (fun bh12 => ?_)))
        · as_aux_lemma => kernel_rfl
        · -- q.kind == 5 = true
          have h12 := bh12
          have h12 := eq_of_beq h12
          refine SKIP (NEXT (IF (q.kind == 5) ?_ (fun bh13 => ?_) (fun bh13 => ?_)))
          · as_aux_lemma => kernel_rfl
          · -- q.kind == 5 = true
            have h13 := bh13
            have h13 := eq_of_beq h13
            refine SEQ (REGION [0, 1, 2, 3, 4, 5, 6, 7, 8, 9, 10, 11, 12] rfl (RUN0 2 [2, 3, 4, 5, 6, 7, 8, 9, 10, 11, 12] [(1, .p 0 0), (36, I q.id)] ?_ rfl ?_))
            · as_aux_lemma => kernel_rfl
            refine OPC (CALL 59 #[vi q.id] (some 37) ?_ [] [] _ rfl (RV (.bool (usedB q.id))) (fun w hw => l12Field_c w q.id) (by rintro _ ⟨⟩; exact Nat.le_of_ble_eq_true rfl) ?_)
            · as_aux_lemma => kernel_rfl
            rintro ⟨⟩
            refine RUN0 1 [4, 5, 6, 7, 8, 9, 10, 11, 12] [(1, .p 0 0), (38, B (usedB q.id))] ?_ rfl ?_
            · as_aux_lemma => kernel_rfl
            refine SPLIT (d := 38) (usedB q.id) ?_ (fun bh14 => ?_) (fun bh14 => ?_)
            · as_aux_lemma => kernel_rfl
            · -- usedB q.id = true
              have h14 := bh14
              refine RUN0 6 [10, 11, 12] [(38, B true), (39, .v (.agg #[vi q.kind, vi q.id, vi q.cabin, vi q.from', vi q.size, vi q.tier])), (44, .v (.agg #[vi q.kind, vi q.id, vi 0, vi 0, vi 0, vi 0]))] ?_ rfl ?_
              · as_aux_lemma => kernel_rfl
              refine OPC (RUNV (.binOp .eql 25 (.tmp 39) (.tmp 44) 25) 45 4 ?_ (Nat.le_of_ble_eq_true rfl) (.bool ((q.kind == q.kind) && ((q.id == q.id) && ((q.cabin == 0) && ((q.from' == 0) && ((q.size == 0) && ((q.tier == 0) && true))))))) (runs_eql (xs := [vi q.kind, vi q.id, vi q.cabin, vi q.from', vi q.size, vi q.tier]) (ys := [vi q.kind, vi q.id, vi 0, vi 0, vi 0, vi 0]) (r := (q.kind == q.kind) && ((q.id == q.id) && ((q.cabin == 0) && ((q.from' == 0) && ((q.size == 0) && ((q.tier == 0) && true)))))) ?_ ?_ ?_) ?_)
              · as_aux_lemma => kernel_rfl
              · as_aux_lemma => kernel_rfl
              · as_aux_lemma => kernel_rfl
              · as_aux_lemma => kernel_rfl
              refine RUN0 2 [] [(2, B ((q.kind == q.kind) && ((q.id == q.id) && ((q.cabin == 0) && ((q.from' == 0) && ((q.size == 0) && ((q.tier == 0) && true)))))))] ?_ rfl ?_
              · as_aux_lemma => kernel_rfl
              refine ENDOPS (NEXT (RET (OUTR (PASS trivial (FIN (.bool ((q.kind == q.kind) && ((q.id == q.id) && ((q.cabin == 0) && ((q.from' == 0) && ((q.size == 0) && ((q.tier == 0) && true))))))) ?_ () ?_ [] ?_)))))
              · as_aux_lemma => kernel_rfl
              · simp [RV, reqOk, reqEq, *]
              · rfl
            · -- usedB q.id = false
              have h14 := bh14
              refine RUN0 9 [] [(2, B false)] ?_ rfl ?_
              · as_aux_lemma => kernel_rfl
              refine ENDOPS (NEXT (RET (OUTR (PASS trivial (FIN (.bool false) ?_ () ?_ [] ?_)))))
              · as_aux_lemma => kernel_rfl
              · simp [RV, reqOk, reqEq, *]
              · rfl
          · exact Bool.noConfusion (bh12.symm.trans bh13)
        · -- q.kind == 5 = false
          have h12 := bh12
          have h12 := ne_of_beq_false h12
          refine REGION [0, 1] rfl (RUN0 2 [] [(1, .p 0 0), (4, I q.kind), (30, B (q.kind == 7))] ?_ rfl ?_)
          · as_aux_lemma => kernel_rfl
          refine ENDOPS (NEXT (IF (q.kind == 7) ?_ (fun bh15 => ?_) (fun bh15 => ?_)))
          · as_aux_lemma => kernel_rfl
          · -- q.kind == 7 = true
            have h15 := bh15
            have h15 := eq_of_beq h15
            refine SEQ (REGION [0, 1, 2, 3, 4, 5, 6, 7, 8, 9, 10, 11, 12] rfl (RUN0 2 [2, 3, 4, 5, 6, 7, 8, 9, 10, 11, 12] [(1, .p 0 0), (36, I q.id)] ?_ rfl ?_))
            · as_aux_lemma => kernel_rfl
            refine OPC (CALL 59 #[vi q.id] (some 37) ?_ [] [] _ rfl (RV (.bool (usedB q.id))) (fun w hw => l12Field_c w q.id) (by rintro _ ⟨⟩; exact Nat.le_of_ble_eq_true rfl) ?_)
            · as_aux_lemma => kernel_rfl
            rintro ⟨⟩
            refine RUN0 1 [4, 5, 6, 7, 8, 9, 10, 11, 12] [(1, .p 0 0), (38, B (usedB q.id))] ?_ rfl ?_
            · as_aux_lemma => kernel_rfl
            refine SPLIT (d := 38) (usedB q.id) ?_ (fun bh16 => ?_) (fun bh16 => ?_)
            · as_aux_lemma => kernel_rfl
            · -- usedB q.id = true
              have h16 := bh16
              refine RUN0 6 [10, 11, 12] [(38, B true), (39, .v (.agg #[vi q.kind, vi q.id, vi q.cabin, vi q.from', vi q.size, vi q.tier])), (44, .v (.agg #[vi q.kind, vi q.id, vi 0, vi 0, vi 0, vi 0]))] ?_ rfl ?_
              · as_aux_lemma => kernel_rfl
              refine OPC (RUNV (.binOp .eql 25 (.tmp 39) (.tmp 44) 25) 45 4 ?_ (Nat.le_of_ble_eq_true rfl) (.bool ((q.kind == q.kind) && ((q.id == q.id) && ((q.cabin == 0) && ((q.from' == 0) && ((q.size == 0) && ((q.tier == 0) && true))))))) (runs_eql (xs := [vi q.kind, vi q.id, vi q.cabin, vi q.from', vi q.size, vi q.tier]) (ys := [vi q.kind, vi q.id, vi 0, vi 0, vi 0, vi 0]) (r := (q.kind == q.kind) && ((q.id == q.id) && ((q.cabin == 0) && ((q.from' == 0) && ((q.size == 0) && ((q.tier == 0) && true)))))) ?_ ?_ ?_) ?_)
              · as_aux_lemma => kernel_rfl
              · as_aux_lemma => kernel_rfl
              · as_aux_lemma => kernel_rfl
              · as_aux_lemma => kernel_rfl
              refine RUN0 2 [] [(2, B ((q.kind == q.kind) && ((q.id == q.id) && ((q.cabin == 0) && ((q.from' == 0) && ((q.size == 0) && ((q.tier == 0) && true)))))))] ?_ rfl ?_
              · as_aux_lemma => kernel_rfl
              refine ENDOPS (NEXT (RET (OUTR (PASS trivial (FIN (.bool ((q.kind == q.kind) && ((q.id == q.id) && ((q.cabin == 0) && ((q.from' == 0) && ((q.size == 0) && ((q.tier == 0) && true))))))) ?_ () ?_ [] ?_)))))
              · as_aux_lemma => kernel_rfl
              · simp [RV, reqOk, reqEq, *]
              · rfl
            · -- usedB q.id = false
              have h16 := bh16
              refine RUN0 9 [] [(2, B false)] ?_ rfl ?_
              · as_aux_lemma => kernel_rfl
              refine ENDOPS (NEXT (RET (OUTR (PASS trivial (FIN (.bool false) ?_ () ?_ [] ?_)))))
              · as_aux_lemma => kernel_rfl
              · simp [RV, reqOk, reqEq, *]
              · rfl
          · -- q.kind == 7 = false
            have h15 := bh15
            have h15 := ne_of_beq_false h15
            refine SEQ (REGION [0, 1] rfl (RUN0 2 [] [(1, .p 0 0), (4, I q.kind), (47, B (q.kind == 3))] ?_ rfl ?_))
            · as_aux_lemma => kernel_rfl
            refine ENDOPS (NEXT (IF (q.kind == 3) ?_ (fun bh17 => ?_) (fun bh17 => ?_)))
            · as_aux_lemma => kernel_rfl
            · -- q.kind == 3 = true
              have h17 := bh17
              have h17 := eq_of_beq h17
              refine SEQ (REGION [0, 1, 2, 3, 4, 5, 6, 7, 8, 9, 10, 11, 12, 13, 14, 15, 16, 17, 18, 19] rfl (RUN0 2 [2, 3, 4, 5, 6, 7, 8, 9, 10, 11, 12, 13, 14, 15, 16, 17, 18, 19] [(1, .p 0 0), (50, I q.cabin)] ?_ rfl ?_))
              · as_aux_lemma => kernel_rfl
              refine OPC (CALL 59 #[vi q.cabin] (some 51) ?_ [] [] _ rfl (RV (.bool (usedB q.cabin))) (fun w hw => l12Field_c w q.cabin) (by rintro _ ⟨⟩; exact Nat.le_of_ble_eq_true rfl) ?_)
              · as_aux_lemma => kernel_rfl
              rintro ⟨⟩
              refine RUN0 1 [4, 5, 6, 7, 8, 9, 10, 11, 12, 13, 14, 15, 16, 17, 18, 19] [(1, .p 0 0), (52, B (usedB q.cabin))] ?_ rfl ?_
              · as_aux_lemma => kernel_rfl
              refine SPLIT (d := 52) (usedB q.cabin) ?_ (fun bh18 => ?_) (fun bh18 => ?_)
              · as_aux_lemma => kernel_rfl
              · -- usedB q.cabin = true
                have h18 := bh18
                refine RUN0 2 [6, 7, 8, 9, 10, 11, 12, 13, 14, 15, 16, 17, 18, 19] [(1, .p 0 0), (52, B true), (54, I q.size)] ?_ rfl ?_
                · as_aux_lemma => kernel_rfl
                refine OPC (CALL 59 #[vi q.size] (some 55) ?_ [] [] _ rfl (RV (.bool (usedB q.size))) (fun w hw => l12Field_c w q.size) (by rintro _ ⟨⟩; exact Nat.le_of_ble_eq_true rfl) ?_)
                · as_aux_lemma => kernel_rfl
                rintro ⟨⟩
                refine RUN0 2 [9, 10, 11, 12, 13, 14, 15, 16, 17, 18, 19] [(1, .p 0 0), (57, B (usedB q.size))] ?_ rfl ?_
                · as_aux_lemma => kernel_rfl
                refine SPLIT (d := 57) (usedB q.size) ?_ (fun bh19 => ?_) (fun bh19 => ?_)
                · as_aux_lemma => kernel_rfl
                · -- usedB q.size = true
                  have h19 := bh19
                  refine RUN0 8 [17, 18, 19] [(57, B true), (58, .v (.agg #[vi q.kind, vi q.id, vi q.cabin, vi q.from', vi q.size, vi q.tier])), (65, .v (.agg #[vi q.kind, vi 0, vi q.cabin, vi 0, vi q.size, vi 0]))] ?_ rfl ?_
                  · as_aux_lemma => kernel_rfl
                  refine OPC (RUNV (.binOp .eql 25 (.tmp 58) (.tmp 65) 25) 66 4 ?_ (Nat.le_of_ble_eq_true rfl) (.bool ((q.kind == q.kind) && ((q.id == 0) && ((q.cabin == q.cabin) && ((q.from' == 0) && ((q.size == q.size) && ((q.tier == 0) && true))))))) (runs_eql (xs := [vi q.kind, vi q.id, vi q.cabin, vi q.from', vi q.size, vi q.tier]) (ys := [vi q.kind, vi 0, vi q.cabin, vi 0, vi q.size, vi 0]) (r := (q.kind == q.kind) && ((q.id == 0) && ((q.cabin == q.cabin) && ((q.from' == 0) && ((q.size == q.size) && ((q.tier == 0) && true)))))) ?_ ?_ ?_) ?_)
                  · as_aux_lemma => kernel_rfl
                  · as_aux_lemma => kernel_rfl
                  · as_aux_lemma => kernel_rfl
                  · as_aux_lemma => kernel_rfl
                  refine RUN0 2 [] [(2, B ((q.kind == q.kind) && ((q.id == 0) && ((q.cabin == q.cabin) && ((q.from' == 0) && ((q.size == q.size) && ((q.tier == 0) && true)))))))] ?_ rfl ?_
                  · as_aux_lemma => kernel_rfl
                  refine ENDOPS (NEXT (RET (OUTR (PASS trivial (FIN (.bool ((q.kind == q.kind) && ((q.id == 0) && ((q.cabin == q.cabin) && ((q.from' == 0) && ((q.size == q.size) && ((q.tier == 0) && true))))))) ?_ () ?_ [] ?_)))))
                  · as_aux_lemma => kernel_rfl
                  · simp [RV, reqOk, reqEq, *]
                  · rfl
                · -- usedB q.size = false
                  have h19 := bh19
                  refine RUN0 11 [] [(2, B false)] ?_ rfl ?_
                  · as_aux_lemma => kernel_rfl
                  refine ENDOPS (NEXT (RET (OUTR (PASS trivial (FIN (.bool false) ?_ () ?_ [] ?_)))))
                  · as_aux_lemma => kernel_rfl
                  · simp [RV, reqOk, reqEq, *]
                  · rfl
              · -- usedB q.cabin = false
                have h18 := bh18
                refine RUN0 16 [] [(2, B false)] ?_ rfl ?_
                · as_aux_lemma => kernel_rfl
                refine ENDOPS (NEXT (RET (OUTR (PASS trivial (FIN (.bool false) ?_ () ?_ [] ?_)))))
                · as_aux_lemma => kernel_rfl
                · simp [RV, reqOk, reqEq, *]
                · rfl
            · -- q.kind == 3 = false
              have h17 := bh17
              have h17 := ne_of_beq_false h17
              refine SEQ (REGION [0, 1] rfl (RUN0 2 [] [(1, .p 0 0), (68, B (q.kind == 6))] ?_ rfl ?_))
              · as_aux_lemma => kernel_rfl
              refine ENDOPS (NEXT (IF (q.kind == 6) ?_ (fun bh20 => ?_) (fun bh20 => ?_)))
              · as_aux_lemma => kernel_rfl
              · -- q.kind == 6 = true
                have h20 := bh20
                have h20 := eq_of_beq h20
                refine SEQ (REGION [0, 1, 2, 3, 4, 5] rfl (RUN0 4 [4, 5] [(70, .v (.agg #[vi q.kind, vi q.id, vi q.cabin, vi q.from', vi q.size, vi q.tier])), (73, .v (.agg #[vi q.kind, vi 0, vi 0, vi 0, vi 0, vi 0]))] ?_ rfl ?_))
                · as_aux_lemma => kernel_rfl
                refine OPC (RUNV (.binOp .eql 25 (.tmp 70) (.tmp 73) 25) 74 4 ?_ (Nat.le_of_ble_eq_true rfl) (.bool ((q.kind == q.kind) && ((q.id == 0) && ((q.cabin == 0) && ((q.from' == 0) && ((q.size == 0) && ((q.tier == 0) && true))))))) (runs_eql (xs := [vi q.kind, vi q.id, vi q.cabin, vi q.from', vi q.size, vi q.tier]) (ys := [vi q.kind, vi 0, vi 0, vi 0, vi 0, vi 0]) (r := (q.kind == q.kind) && ((q.id == 0) && ((q.cabin == 0) && ((q.from' == 0) && ((q.size == 0) && ((q.tier == 0) && true)))))) ?_ ?_ ?_) ?_)
                · as_aux_lemma => kernel_rfl
                · as_aux_lemma => kernel_rfl
                · as_aux_lemma => kernel_rfl
                · as_aux_lemma => kernel_rfl
                refine RUN0 1 [] [(2, B ((q.kind == q.kind) && ((q.id == 0) && ((q.cabin == 0) && ((q.from' == 0) && ((q.size == 0) && ((q.tier == 0) && true)))))))] ?_ rfl ?_
                · as_aux_lemma => kernel_rfl
                refine ENDOPS (NEXT (RET (OUTR (PASS trivial (FIN (.bool ((q.kind == q.kind) && ((q.id == 0) && ((q.cabin == 0) && ((q.from' == 0) && ((q.size == 0) && ((q.tier == 0) && true))))))) ?_ () ?_ [] ?_)))))
                · as_aux_lemma => kernel_rfl
                · simp [RV, reqOk, reqEq, *]
                · rfl
              · -- q.kind == 6 = false
                have h20 := bh20
                have h20 := ne_of_beq_false h20
                refine SKIP (OUTN (NEXT (SEQ (REGION [0] rfl (RUN0 1 [] [(2, B false)] ?_ rfl ?_)))))
                · as_aux_lemma => kernel_rfl
                refine ENDOPS (NEXT (RET (FIN (.bool false) ?_ () ?_ [] ?_)))
                · as_aux_lemma => kernel_rfl
                · simp [RV, reqOk, reqEq, *]
                · rfl

theorem sPutNum_c (W : World) (n : Int) : Spec Try.prog W [] 45 #[vi n] (⟨HH, fun p => .slice p.1 ((putNum n).length) p.2, fun p => [slA 5 byteL (.slice p.1 (putNum n).length p.2) (putNum n)]⟩) := by
  refine ENTER0 (N := 25) (vs := [vi n]) Try.func45 rfl rfl (Nat.le_of_ble_eq_true rfl) ?_
  refine SEQ (REGION [0] rfl (RUN0 1 [] [(0, I n)] ?_ rfl ?_))
  · as_aux_lemma => kernel_rfl
  refine ENDOPS (NEXT (SEQ (REGION [0, 1] rfl (OPC (BUILDS 22 0 #[] 4 22 ?_ (Nat.le_of_ble_eq_true rfl) 5 [] ?_ byteL [] rfl (by simp only [maxLen]; omega) [] [] _ rfl (flatRep rfl) (fun a1 ha2 => ?_))))))
  · as_aux_lemma => kernel_rfl
  · as_aux_lemma => kernel_rfl
  refine RUN0 1 [] [(0, I n), (3, .v (.slice a1 0 0))] ?_ rfl ?_
  · as_aux_lemma => kernel_rfl
  refine ENDOPS (NEXT (SEQ (SEQ (REGION [0, 1, 2] rfl (RUN0 1 [1, 2] [(0, I n), (3, .v (.slice a1 0 0)), (5, I n)] ?_ rfl ?_)))))
  · as_aux_lemma => kernel_rfl
  refine OPC (CALL 44 #[vi n, vi 0, vi 2147483647] (some 6) ?_ [] [] _ rfl (RV (.bool (inB n 0 2147483647))) (fun w hw => l1In_c w n 0 2147483647) (by rintro _ ⟨⟩; exact Nat.le_of_ble_eq_true rfl) ?_)
  · as_aux_lemma => kernel_rfl
  rintro ⟨⟩
  refine RUN0 1 [] [(0, I n), (3, .v (.slice a1 0 0)), (7, B (!(inB n 0 2147483647)))] ?_ rfl ?_
  · as_aux_lemma => kernel_rfl
  refine ENDOPS (NEXT (IF (!(inB n 0 2147483647)) ?_ (fun bh3 => ?_) (fun bh3 => ?_)))
  · as_aux_lemma => kernel_rfl
  · -- !(inB n 0 2147483647) = true
    have h3 := bh3
    have h3 := notT h3
    refine SEQ (REGION [0, 1] rfl (RUN0 2 [] [(2, .v (.slice a1 0 0))] ?_ rfl ?_))
    · as_aux_lemma => kernel_rfl
    refine ENDOPS (NEXT (RET (PASS trivial ?_)))
    have e4 : [] = putNum n := by simp [putNum, *]
    refine FIN (.slice a1 0 0) ?_ (a1, 0) ?_ [0] ?_
    · as_aux_lemma => kernel_rfl
    · exact congrArg (fun z : List UInt8 => Value.slice a1 z.length 0) e4
    · exact congrArg (fun z : List UInt8 => some [slA 5 byteL (.slice a1 z.length 0) z]) e4
  · -- !(inB n 0 2147483647) = false
    have h3 := bh3
    have h3 := notF h3
    have hn : 0 ≤ n ∧ n ≤ 2147483647 := by simpa [inB] using h3
    refine SKIP (NEXT (SEQ (BLOCK (CAST (d := 0) (vi n) (vi ((n.toNat : Nat) : Int)) ?_ (by rw [Int.toNat_of_nonneg hn.1]) ?_))))
    · as_aux_lemma => kernel_rfl
    refine LOOP (ι := Nat × (Option Addr) × Nat × (List UInt8)) (fun j => [(0, I (j.1 : Int)), (3, .v (.slice j.2.1 j.2.2.2.length j.2.2.1))]) (fun j => []) (fun j => [slA 5 byteL (.slice j.2.1 j.2.2.2.length j.2.2.1) j.2.2.2]) (fun j => j.1 ≤ 2147483647 ∧ j.2.2.2.length + j.1 ≤ 2147483647 ∧ j.2.2.2 ++ putGo j.1 = putGo n.toNat) (fun j => j.1) (n.toNat, a1, 0, []) [0, 3] ⟨by dsimp only; omega, by simp; omega, rfl⟩ ?_ rfl rfl ?_
    · as_aux_lemma => kernel_rfl
    rintro ⟨m, oa, oc, out⟩ ⟨hm, hl, hv⟩
    try dsimp only at hm hl hv
    refine SEQ (SEQ (REGION [0, 1] rfl (RUN0 2 [] [(0, I (m : Int)), (3, .v (.slice oa out.length oc)), (10, B (decide ((m : Int) > 127)))] ?_ rfl ?_)))
    · as_aux_lemma => kernel_rfl
    refine ENDOPS (NEXT (IF (decide ((m : Int) > 127)) ?_ (fun bh5 => ?_) (fun bh5 => ?_)))
    · as_aux_lemma => kernel_rfl
    · -- decide ((m : Int) > 127) = true
      have h5 := bh5
      have h5 := of_decide_eq_true h5
      refine SKIP (NEXT (BLOCK (SEQ (REGION [0, 1, 2, 3, 4, 5, 6, 7] rfl (RUN0 3 [3, 4, 5, 6, 7] [(0, I (m : Int)), (11, .v (.slice oa out.length oc)), (13, I (Int.tmod (m : Int) 128))] ?_ rfl ?_)))))
      · as_aux_lemma => kernel_rfl
      refine CAST (d := 13) (vi (Int.tmod (m : Int) 128)) (vi ((m % 128 : Nat) : Int)) ?_ (vi_rem m 128) ?_
      · as_aux_lemma => kernel_rfl
      refine RUN0 1 [4, 5, 6, 7] [(0, I (m : Int)), (11, .v (.slice oa out.length oc)), (14, I (wr (((m % 128 : Nat) : Int) + 128)))] ?_ rfl ?_
      · as_aux_lemma => kernel_rfl
      refine CAST (d := 14) (vi (wr (((m % 128 : Nat) : Int) + 128))) (vi (((m % 128) + 128 : Nat) : Int)) ?_ (vi_cast (by omega) (by omega)) ?_
      · as_aux_lemma => kernel_rfl
      refine RUN0 1 [5, 6, 7] [(0, I (m : Int)), (11, .v (.slice oa out.length oc)), (15, .v (.int .u8 (IntKind.wrap .u8 (((m % 128) + 128 : Nat) : Int))))] ?_ rfl ?_
      · as_aux_lemma => kernel_rfl
      refine CAST (d := 15) (.int .u8 (IntKind.wrap .u8 (((m % 128) + 128 : Nat) : Int))) (.int .u8 (((byteOf (((m % 128) + 128 : Nat) : Int)).toNat : Nat) : Int)) ?_ (v8 (((m % 128) + 128 : Nat) : Int)) ?_
      · as_aux_lemma => kernel_rfl
      refine OPC (BUILDS 22 1 #[(0, .tmp 15)] 16 22 ?_ (Nat.le_of_ble_eq_true rfl) 5 [.int .u8 (((byteOf (((m % 128) + 128 : Nat) : Int)).toNat : Nat) : Int)] ?_ byteL ([byteOf (((m % 128) + 128 : Nat) : Int)] : List UInt8) rfl (by simp only [maxLen]; omega) [] [] _ rfl (flatRep rfl) (fun a6 ha7 => ?_))
      · as_aux_lemma => kernel_rfl
      · as_aux_lemma => kernel_rfl
      refine OPC (APPENDO 22 (.tmp 11) (.tmp 16) 17 22 ?_ (Nat.le_of_ble_eq_true rfl) (.slice oa out.length oc) a6 1 1 ?_ ?_ ha7 5 ?_ byteL (.int .u8 0) 1 ?_ rfl (by decide) 0 0 out ([byteOf (((m % 128) + 128 : Nat) : Int)] : List UInt8) _ rfl rfl (by first | omega | (simp only [List.length_append, List.length_cons, List.length_nil, List.length_take, List.length_drop] at *; omega)) (by simp only [maxLen]; first | omega | (simp only [List.length_append, List.length_cons, List.length_nil, List.length_take, List.length_drop] at *; omega)) (fun a8 c9 hn10 => ?_))
      · as_aux_lemma => kernel_rfl
      · as_aux_lemma => kernel_rfl
      · as_aux_lemma => kernel_rfl
      · as_aux_lemma => kernel_rfl
      · as_aux_lemma => kernel_rfl
      refine RUN0 1 [] [(0, I (m : Int)), (3, .v (.slice a8 ((out ++ ([byteOf (((m % 128) + 128 : Nat) : Int)] : List UInt8)).length) c9))] ?_ rfl ?_
      · as_aux_lemma => kernel_rfl
      refine ENDOPS (NEXT (REGION [0, 1, 2] rfl (RUN0 2 [2] [(3, .v (.slice a8 ((out ++ ([byteOf (((m % 128) + 128 : Nat) : Int)] : List UInt8)).length) c9)), (19, I (wr (Int.tdiv (m : Int) 128)))] ?_ rfl ?_)))
      · as_aux_lemma => kernel_rfl
      refine CAST (d := 19) (vi (wr (Int.tdiv (m : Int) 128))) (vi ((m / 128 : Nat) : Int)) ?_ (vi_quo m 128 (by decide) (by omega)) ?_
      · as_aux_lemma => kernel_rfl
      refine RUN0 1 [] [(0, I ((m / 128 : Nat) : Int)), (3, .v (.slice a8 ((out ++ ([byteOf (((m % 128) + 128 : Nat) : Int)] : List UInt8)).length) c9))] ?_ rfl ?_
      · as_aux_lemma => kernel_rfl
      refine ENDOPS (OUTN (BACK (m / 128, a8, c9, out ++ ([byteOf (((m % 128) + 128 : Nat) : Int)] : List UInt8)) [0, 3] 0 [0] _ ⟨by dsimp only; omega, by simp only [List.length_append, List.length_cons, List.length_nil]; omega, by rw [← hv, putGo_ge (n := m) (by omega)]; simp⟩ (by dsimp only; omega) ?_ rfl rfl rfl))
      · as_aux_lemma => kernel_rfl
    · -- decide ((m : Int) > 127) = false
      have h5 := bh5
      have h5 := of_decide_eq_false h5
      refine EXIT (PASS trivial (PASS trivial (OUT (NEXT (SEQ (REGION [0, 1, 2, 3, 4, 5] rfl (RUN0 3 [3, 4, 5] [(20, .v (.slice oa out.length oc)), (22, .v (.int .u8 (IntKind.wrap .u8 (m : Int))))] ?_ rfl ?_)))))))
      · as_aux_lemma => kernel_rfl
      refine CAST (d := 22) (.int .u8 (IntKind.wrap .u8 (m : Int))) (.int .u8 (((byteOf (m : Int)).toNat : Nat) : Int)) ?_ (v8 (m : Int)) ?_
      · as_aux_lemma => kernel_rfl
      refine OPC (BUILDS 22 1 #[(0, .tmp 22)] 23 22 ?_ (Nat.le_of_ble_eq_true rfl) 5 [.int .u8 (((byteOf (m : Int)).toNat : Nat) : Int)] ?_ byteL ([byteOf (m : Int)] : List UInt8) rfl (by simp only [maxLen]; omega) [] [] _ rfl (flatRep rfl) (fun a11 ha12 => ?_))
      · as_aux_lemma => kernel_rfl
      · as_aux_lemma => kernel_rfl
      refine OPC (APPENDO 22 (.tmp 20) (.tmp 23) 24 22 ?_ (Nat.le_of_ble_eq_true rfl) (.slice oa out.length oc) a11 1 1 ?_ ?_ ha12 5 ?_ byteL (.int .u8 0) 1 ?_ rfl (by decide) 0 0 out ([byteOf (m : Int)] : List UInt8) _ rfl rfl (by first | omega | (simp only [List.length_append, List.length_cons, List.length_nil, List.length_take, List.length_drop] at *; omega)) (by simp only [maxLen]; first | omega | (simp only [List.length_append, List.length_cons, List.length_nil, List.length_take, List.length_drop] at *; omega)) (fun a13 c14 hn15 => ?_))
      · as_aux_lemma => kernel_rfl
      · as_aux_lemma => kernel_rfl
      · as_aux_lemma => kernel_rfl
      · as_aux_lemma => kernel_rfl
      · as_aux_lemma => kernel_rfl
      refine RUN0 1 [] [(2, .v (.slice a13 ((out ++ ([byteOf (m : Int)] : List UInt8)).length) c14))] ?_ rfl ?_
      · as_aux_lemma => kernel_rfl
      refine ENDOPS (NEXT (RET ?_))
      have e16 : out ++ ([byteOf (m : Int)] : List UInt8) = putNum n := by rw [putNum, if_pos (by simpa [inB] using hn), ← hv, putGo_lt (n := m) (by omega)]
      refine FIN (.slice a13 ((out ++ ([byteOf (m : Int)] : List UInt8)).length) c14) ?_ (a13, c14) ?_ [0] ?_
      · as_aux_lemma => kernel_rfl
      · exact congrArg (fun z : List UInt8 => Value.slice a13 z.length c14) e16
      · exact congrArg (fun z : List UInt8 => some [slA 5 byteL (.slice a13 z.length c14) z]) e16

theorem iPutNum_c (W : World) (n : Int) : Spec Try.prog W [] 26 #[vi n] (⟨HH, fun p => .slice p.1 ((putNum n).length) p.2, fun p => [slA 5 byteL (.slice p.1 (putNum n).length p.2) (putNum n)]⟩) := by
  refine ENTER0 (N := 23) (vs := [vi n]) Try.func26 rfl rfl (Nat.le_of_ble_eq_true rfl) ?_
  refine SEQ (REGION [0] rfl (RUN0 1 [] [(0, I n)] ?_ rfl ?_))
  · as_aux_lemma => kernel_rfl
  refine ENDOPS (NEXT (SEQ (SEQ (REGION [0, 1, 2] rfl (RUN0 1 [1, 2] [(0, I n), (4, I n)] ?_ rfl ?_)))))
  · as_aux_lemma => kernel_rfl
  refine OPC (CALL 15 #[vi n, vi 0, vi 2147483647] (some 5) ?_ [] [] _ rfl (RV (.bool (inB n 0 2147483647))) (fun w hw => within_c w n 0 2147483647) (by rintro _ ⟨⟩; exact Nat.le_of_ble_eq_true rfl) ?_)
  · as_aux_lemma => kernel_rfl
  rintro ⟨⟩
  refine RUN0 1 [] [(0, I n), (6, B (!(inB n 0 2147483647)))] ?_ rfl ?_
  · as_aux_lemma => kernel_rfl
  refine ENDOPS (NEXT (IF (!(inB n 0 2147483647)) ?_ (fun bh1 => ?_) (fun bh1 => ?_)))
  · as_aux_lemma => kernel_rfl
  · -- !(inB n 0 2147483647) = true
    have h1 := bh1
    have h1 := notT h1
    refine SEQ (REGION [0] rfl (RUN0 1 [] [(2, .v (.slice none 0 0))] ?_ rfl ?_))
    · as_aux_lemma => kernel_rfl
    refine ENDOPS (NEXT (RET (PASS trivial (NIL 5 byteL ?_))))
    have e2 : [] = putNum n := by simp [putNum, *]
    refine FIN (.slice none 0 0) ?_ (none, 0) ?_ [0] ?_
    · as_aux_lemma => kernel_rfl
    · exact congrArg (fun z : List UInt8 => Value.slice none z.length 0) e2
    · exact congrArg (fun z : List UInt8 => some [slA 5 byteL (.slice none z.length 0) z]) e2
  · -- !(inB n 0 2147483647) = false
    have h1 := bh1
    have h1 := notF h1
    have hn : 0 ≤ n ∧ n ≤ 2147483647 := by simpa [inB] using h1
    refine SKIP (NEXT (SEQ (REGION [0] rfl (RUN0 1 [] [(0, I n), (3, .v (.slice none 0 0))] ?_ rfl ?_))))
    · as_aux_lemma => kernel_rfl
    refine ENDOPS (NEXT (SEQ (BLOCK (CAST (d := 0) (vi n) (vi ((n.toNat : Nat) : Int)) ?_ (by rw [Int.toNat_of_nonneg hn.1]) ?_))))
    · as_aux_lemma => kernel_rfl
    refine NIL 5 byteL ?_
    refine LOOP (ι := Nat × (Option Addr) × Nat × (List UInt8)) (fun j => [(0, I (j.1 : Int)), (3, .v (.slice j.2.1 j.2.2.2.length j.2.2.1))]) (fun j => []) (fun j => [slA 5 byteL (.slice j.2.1 j.2.2.2.length j.2.2.1) j.2.2.2]) (fun j => j.1 ≤ 2147483647 ∧ j.2.2.2.length + j.1 ≤ 2147483647 ∧ j.2.2.2 ++ putGo j.1 = putGo n.toNat) (fun j => j.1) (n.toNat, none, 0, []) [0, 3] ⟨by dsimp only; omega, by simp; omega, rfl⟩ ?_ rfl rfl ?_
    · as_aux_lemma => kernel_rfl
    rintro ⟨m, oa, oc, out⟩ ⟨hm, hl, hv⟩
    try dsimp only at hm hl hv
    refine SEQ (SEQ (REGION [0, 1] rfl (RUN0 2 [] [(0, I (m : Int)), (3, .v (.slice oa out.length oc)), (8, B (decide ((m : Int) ≥ 128)))] ?_ rfl ?_)))
    · as_aux_lemma => kernel_rfl
    refine ENDOPS (NEXT (IF (decide ((m : Int) ≥ 128)) ?_ (fun bh3 => ?_) (fun bh3 => ?_)))
    · as_aux_lemma => kernel_rfl
    · -- decide ((m : Int) ≥ 128) = true
      have h3 := bh3
      have h3 := of_decide_eq_true h3
      refine SKIP (NEXT (BLOCK (SEQ (REGION [0, 1, 2, 3, 4, 5, 6, 7] rfl (RUN0 3 [3, 4, 5, 6, 7] [(0, I (m : Int)), (9, .v (.slice oa out.length oc)), (11, I (Int.tmod (m : Int) 128))] ?_ rfl ?_)))))
      · as_aux_lemma => kernel_rfl
      refine CAST (d := 11) (vi (Int.tmod (m : Int) 128)) (vi ((m % 128 : Nat) : Int)) ?_ (vi_rem m 128) ?_
      · as_aux_lemma => kernel_rfl
      refine RUN0 1 [4, 5, 6, 7] [(0, I (m : Int)), (9, .v (.slice oa out.length oc)), (12, I (wr (((m % 128 : Nat) : Int) + 128)))] ?_ rfl ?_
      · as_aux_lemma => kernel_rfl
      refine CAST (d := 12) (vi (wr (((m % 128 : Nat) : Int) + 128))) (vi (((m % 128) + 128 : Nat) : Int)) ?_ (vi_cast (by omega) (by omega)) ?_
      · as_aux_lemma => kernel_rfl
      refine RUN0 1 [5, 6, 7] [(0, I (m : Int)), (9, .v (.slice oa out.length oc)), (13, .v (.int .u8 (IntKind.wrap .u8 (((m % 128) + 128 : Nat) : Int))))] ?_ rfl ?_
      · as_aux_lemma => kernel_rfl
      refine CAST (d := 13) (.int .u8 (IntKind.wrap .u8 (((m % 128) + 128 : Nat) : Int))) (.int .u8 (((byteOf (((m % 128) + 128 : Nat) : Int)).toNat : Nat) : Int)) ?_ (v8 (((m % 128) + 128 : Nat) : Int)) ?_
      · as_aux_lemma => kernel_rfl
      refine OPC (BUILDS 22 1 #[(0, .tmp 13)] 14 22 ?_ (Nat.le_of_ble_eq_true rfl) 5 [.int .u8 (((byteOf (((m % 128) + 128 : Nat) : Int)).toNat : Nat) : Int)] ?_ byteL ([byteOf (((m % 128) + 128 : Nat) : Int)] : List UInt8) rfl (by simp only [maxLen]; omega) [] [] _ rfl (flatRep rfl) (fun a4 ha5 => ?_))
      · as_aux_lemma => kernel_rfl
      · as_aux_lemma => kernel_rfl
      refine OPC (APPENDO 22 (.tmp 9) (.tmp 14) 15 22 ?_ (Nat.le_of_ble_eq_true rfl) (.slice oa out.length oc) a4 1 1 ?_ ?_ ha5 5 ?_ byteL (.int .u8 0) 1 ?_ rfl (by decide) 0 0 out ([byteOf (((m % 128) + 128 : Nat) : Int)] : List UInt8) _ rfl rfl (by first | omega | (simp only [List.length_append, List.length_cons, List.length_nil, List.length_take, List.length_drop] at *; omega)) (by simp only [maxLen]; first | omega | (simp only [List.length_append, List.length_cons, List.length_nil, List.length_take, List.length_drop] at *; omega)) (fun a6 c7 hn8 => ?_))
      · as_aux_lemma => kernel_rfl
      · as_aux_lemma => kernel_rfl
      · as_aux_lemma => kernel_rfl
      · as_aux_lemma => kernel_rfl
      · as_aux_lemma => kernel_rfl
      refine RUN0 1 [] [(0, I (m : Int)), (3, .v (.slice a6 ((out ++ ([byteOf (((m % 128) + 128 : Nat) : Int)] : List UInt8)).length) c7))] ?_ rfl ?_
      · as_aux_lemma => kernel_rfl
      refine ENDOPS (NEXT (REGION [0, 1, 2] rfl (RUN0 2 [2] [(3, .v (.slice a6 ((out ++ ([byteOf (((m % 128) + 128 : Nat) : Int)] : List UInt8)).length) c7)), (17, I (wr (Int.tdiv (m : Int) 128)))] ?_ rfl ?_)))
      · as_aux_lemma => kernel_rfl
      refine CAST (d := 17) (vi (wr (Int.tdiv (m : Int) 128))) (vi ((m / 128 : Nat) : Int)) ?_ (vi_quo m 128 (by decide) (by omega)) ?_
      · as_aux_lemma => kernel_rfl
      refine RUN0 1 [] [(0, I ((m / 128 : Nat) : Int)), (3, .v (.slice a6 ((out ++ ([byteOf (((m % 128) + 128 : Nat) : Int)] : List UInt8)).length) c7))] ?_ rfl ?_
      · as_aux_lemma => kernel_rfl
      refine ENDOPS (OUTN (BACK (m / 128, a6, c7, out ++ ([byteOf (((m % 128) + 128 : Nat) : Int)] : List UInt8)) [0, 3] 0 [0] _ ⟨by dsimp only; omega, by simp only [List.length_append, List.length_cons, List.length_nil]; omega, by rw [← hv, putGo_ge (n := m) (by omega)]; simp⟩ (by dsimp only; omega) ?_ rfl rfl rfl))
      · as_aux_lemma => kernel_rfl
    · -- decide ((m : Int) ≥ 128) = false
      have h3 := bh3
      have h3 := of_decide_eq_false h3
      refine EXIT (PASS trivial (PASS trivial (OUT (NEXT (SEQ (REGION [0, 1, 2, 3, 4, 5] rfl (RUN0 3 [3, 4, 5] [(18, .v (.slice oa out.length oc)), (20, .v (.int .u8 (IntKind.wrap .u8 (m : Int))))] ?_ rfl ?_)))))))
      · as_aux_lemma => kernel_rfl
      refine CAST (d := 20) (.int .u8 (IntKind.wrap .u8 (m : Int))) (.int .u8 (((byteOf (m : Int)).toNat : Nat) : Int)) ?_ (v8 (m : Int)) ?_
      · as_aux_lemma => kernel_rfl
      refine OPC (BUILDS 22 1 #[(0, .tmp 20)] 21 22 ?_ (Nat.le_of_ble_eq_true rfl) 5 [.int .u8 (((byteOf (m : Int)).toNat : Nat) : Int)] ?_ byteL ([byteOf (m : Int)] : List UInt8) rfl (by simp only [maxLen]; omega) [] [] _ rfl (flatRep rfl) (fun a9 ha10 => ?_))
      · as_aux_lemma => kernel_rfl
      · as_aux_lemma => kernel_rfl
      refine OPC (APPENDO 22 (.tmp 18) (.tmp 21) 22 22 ?_ (Nat.le_of_ble_eq_true rfl) (.slice oa out.length oc) a9 1 1 ?_ ?_ ha10 5 ?_ byteL (.int .u8 0) 1 ?_ rfl (by decide) 0 0 out ([byteOf (m : Int)] : List UInt8) _ rfl rfl (by first | omega | (simp only [List.length_append, List.length_cons, List.length_nil, List.length_take, List.length_drop] at *; omega)) (by simp only [maxLen]; first | omega | (simp only [List.length_append, List.length_cons, List.length_nil, List.length_take, List.length_drop] at *; omega)) (fun a11 c12 hn13 => ?_))
      · as_aux_lemma => kernel_rfl
      · as_aux_lemma => kernel_rfl
      · as_aux_lemma => kernel_rfl
      · as_aux_lemma => kernel_rfl
      · as_aux_lemma => kernel_rfl
      refine RUN0 1 [] [(2, .v (.slice a11 ((out ++ ([byteOf (m : Int)] : List UInt8)).length) c12))] ?_ rfl ?_
      · as_aux_lemma => kernel_rfl
      refine ENDOPS (NEXT (RET ?_))
      have e14 : out ++ ([byteOf (m : Int)] : List UInt8) = putNum n := by rw [putNum, if_pos (by simpa [inB] using hn), ← hv, putGo_lt (n := m) (by omega)]
      refine FIN (.slice a11 ((out ++ ([byteOf (m : Int)] : List UInt8)).length) c12) ?_ (a11, c12) ?_ [0] ?_
      · as_aux_lemma => kernel_rfl
      · exact congrArg (fun z : List UInt8 => Value.slice a11 z.length c12) e14
      · exact congrArg (fun z : List UInt8 => some [slA 5 byteL (.slice a11 z.length c12) z]) e14

theorem sCrc_c (W : World) (b : List UInt8) (b_a : Option Addr) (b_c : Nat) (hb : Rd byteL W b_a b) : Spec Try.prog W [] 47 #[.slice b_a b.length b_c] (RV (vi ((crc b : Nat) : Int))) := by
  refine ENTER0 (N := 34) (vs := [.slice b_a b.length b_c]) Try.func47 rfl rfl (Nat.le_of_ble_eq_true rfl) ?_
  have hb_len := hb.len
  refine SEQ (REGION [0] rfl (RUN0 1 [] [(0, .v (.slice b_a b.length b_c))] ?_ rfl ?_))
  · as_aux_lemma => kernel_rfl
  refine ENDOPS (NEXT (SEQ (REGION [0] rfl (RUN0 1 [] [(0, .v (.slice b_a b.length b_c)), (3, I 4294967295)] ?_ rfl ?_))))
  · as_aux_lemma => kernel_rfl
  refine ENDOPS (NEXT (SEQ (SEQ (REGION [0] rfl (RUN0 1 [] [(0, .v (.slice b_a b.length b_c)), (3, I 4294967295), (4, I 0)] ?_ rfl ?_)))))
  · as_aux_lemma => kernel_rfl
  refine ENDOPS (NEXT (BLOCK (LOOP (ι := Nat × (List UInt8) × Nat) (fun j => [(0, .v (.slice b_a b.length b_c)), (3, I (j.2.2 : Int)), (4, I (j.1 : Int))]) (fun j => []) (fun j => []) (fun j => j.1 + j.2.1.length = b.length ∧ b.drop j.1 = j.2.1 ∧ crcGo 4294967295 b = crcGo j.2.2 j.2.1 ∧ j.2.2 < 4294967296) (fun j => j.2.1.length) (0, b, 4294967295) [0, 3, 4] ⟨by simp, rfl, rfl, by dsimp only; omega⟩ ?_ rfl rfl ?_)))
  · as_aux_lemma => kernel_rfl
  rintro ⟨k, ys, x⟩ ⟨hk, hd, hv0, hv1⟩
  try dsimp only at hk hd hv0 hv1
  refine SEQ (SEQ (REGION [0, 1, 2, 3] rfl (RUN0 4 [] [(0, .v (.slice b_a b.length b_c)), (3, I (x : Int)), (4, I (k : Int)), (10, B (decide ((k : Int) < (b.length : Int))))] ?_ rfl ?_)))
  · as_aux_lemma => kernel_rfl
  refine ENDOPS (NEXT (IF (decide ((k : Int) < (b.length : Int))) ?_ (fun bh1 => ?_) (fun bh1 => ?_)))
  · as_aux_lemma => kernel_rfl
  · -- decide ((k : Int) < (b.length : Int)) = true
    have h1 := bh1
    have h1 := of_decide_eq_true h1
    obtain ⟨y2, ys3, rfl, hx_y2, hd_y2, hl_y2⟩ := drop_cons hd hk (by omega)
    have := UInt8.toNat_lt y2
    refine SKIP (NEXT (SEQ (BLOCK (SEQ (REGION [0, 1, 2, 3, 4, 5, 6, 7] rfl (RUN0 3 [3, 4, 5, 6, 7] [(0, .v (.slice b_a b.length b_c)), (4, I (k : Int)), (13, I (x : Int)), (14, .v (.slice b_a b.length b_c)), (15, I (k : Int))] ?_ rfl ?_))))))
    · as_aux_lemma => kernel_rfl
    refine OPC (INDEX 22 (.tmp 14) (.tmp 15) 16 0 ?_ (Nat.le_of_ble_eq_true rfl) b_a b.length b_c .i64 (k : Int) 5 1 ?_ ?_ ?_ ?_ (Rd.some hb (by omega)) (by omega) (by omega) ?_)
    · as_aux_lemma => kernel_rfl
    · as_aux_lemma => kernel_rfl
    · as_aux_lemma => kernel_rfl
    · as_aux_lemma => kernel_rfl
    · as_aux_lemma => kernel_rfl
    refine OPC (LOADE 5 (.tmp 16) 17 5 ?_ (Nat.le_of_ble_eq_true rfl) b_a (k * 1) 0 [.int .u8 (y2.toNat : Int)] (.int .u8 (y2.toNat : Int)) ?_ (fun w hw => (hb.fr hw.fr).flat hx_y2) ?_ ?_)
    · as_aux_lemma => kernel_rfl
    · as_aux_lemma => kernel_rfl
    · as_aux_lemma => kernel_rfl
    refine RUN0 1 [6, 7] [(0, .v (.slice b_a b.length b_c)), (4, I (k : Int)), (13, I (x : Int)), (18, I (IntKind.wrap .i64 (y2.toNat : Int)))] ?_ rfl ?_
    · as_aux_lemma => kernel_rfl
    refine CAST (d := 18) (vi (IntKind.wrap .i64 (y2.toNat : Int))) (vi (y2.toNat : Int)) ?_ (vi_u8 y2) ?_
    · as_aux_lemma => kernel_rfl
    refine RUN0 1 [7] [(0, .v (.slice b_a b.length b_c)), (4, I (k : Int)), (19, I (wr (((BitVec.ofInt 64 (x : Int) ^^^ BitVec.ofInt 64 (y2.toNat : Int)).toNat : Int))))] ?_ rfl ?_
    · as_aux_lemma => kernel_rfl
    refine CAST (d := 19) (vi (wr (((BitVec.ofInt 64 (x : Int) ^^^ BitVec.ofInt 64 (y2.toNat : Int)).toNat : Int)))) (vi ((x ^^^ y2.toNat : Nat) : Int)) ?_ (vi_xor x y2.toNat (by omega) (by omega)) ?_
    · as_aux_lemma => kernel_rfl
    refine RUN0 1 [] [(0, .v (.slice b_a b.length b_c)), (3, I ((x ^^^ y2.toNat : Nat) : Int)), (4, I (k : Int))] ?_ rfl ?_
    · as_aux_lemma => kernel_rfl
    refine ENDOPS (NEXT (SEQ (REGION [0] rfl (RUN0 1 [] [(0, .v (.slice b_a b.length b_c)), (3, I ((x ^^^ y2.toNat : Nat) : Int)), (4, I (k : Int)), (5, I 0)] ?_ rfl ?_))))
    · as_aux_lemma => kernel_rfl
    refine ENDOPS (NEXT (BLOCK (LOOP (ι := Nat × Nat × Nat) (fun j => [(0, .v (.slice b_a b.length b_c)), (3, I (j.2.2 : Int)), (4, I (k : Int)), (5, I (j.1 : Int))]) (fun j => []) (fun j => []) (fun j => j.1 + j.2.1 = 8 ∧ crcIt 8 (x ^^^ y2.toNat) = crcIt j.2.1 j.2.2 ∧ j.2.2 < 4294967296) (fun j => j.2.1) (0, 8, x ^^^ y2.toNat) [0, 3, 4, 5] ⟨by simp, rfl, crc8_lt hv1 _⟩ ?_ rfl rfl ?_)))
    · as_aux_lemma => kernel_rfl
    rintro ⟨i, r, z⟩ ⟨hki, hvi0, hvi1⟩
    try dsimp only at hki hvi0 hvi1
    refine SEQ (SEQ (REGION [0, 1] rfl (RUN0 2 [] [(0, .v (.slice b_a b.length b_c)), (3, I (z : Int)), (4, I (k : Int)), (5, I (i : Int)), (21, B (decide ((i : Int) < 8)))] ?_ rfl ?_)))
    · as_aux_lemma => kernel_rfl
    refine ENDOPS (NEXT (IF (decide ((i : Int) < 8)) ?_ (fun bh4 => ?_) (fun bh4 => ?_)))
    · as_aux_lemma => kernel_rfl
    · -- decide ((i : Int) < 8) = true
      have h4 := bh4
      have h4 := of_decide_eq_true h4
      obtain ⟨r5, rfl⟩ : ∃ z, r = z + 1 := ⟨r - 1, by omega⟩
      refine SKIP (NEXT (SEQ (BLOCK (SEQ (REGION [0, 1, 2, 3] rfl (RUN0 2 [2, 3] [(0, .v (.slice b_a b.length b_c)), (3, I (z : Int)), (4, I (k : Int)), (5, I (i : Int)), (25, I (Int.tmod (z : Int) 2))] ?_ rfl ?_))))))
      · as_aux_lemma => kernel_rfl
      refine CAST (d := 25) (vi (Int.tmod (z : Int) 2)) (vi ((z % 2 : Nat) : Int)) ?_ (vi_rem z 2) ?_
      · as_aux_lemma => kernel_rfl
      refine RUN0 2 [] [(0, .v (.slice b_a b.length b_c)), (3, I (z : Int)), (4, I (k : Int)), (5, I (i : Int)), (6, B (((z % 2 : Nat) : Int) == 1))] ?_ rfl ?_
      · as_aux_lemma => kernel_rfl
      refine ENDOPS (NEXT (SEQ (REGION [0, 1, 2] rfl (RUN0 2 [2] [(0, .v (.slice b_a b.length b_c)), (4, I (k : Int)), (5, I (i : Int)), (6, B (((z % 2 : Nat) : Int) == 1)), (28, I (wr (Int.tdiv (z : Int) 2)))] ?_ rfl ?_))))
      · as_aux_lemma => kernel_rfl
      refine CAST (d := 28) (vi (wr (Int.tdiv (z : Int) 2))) (vi ((z / 2 : Nat) : Int)) ?_ (vi_quo z 2 (by decide) (by omega)) ?_
      · as_aux_lemma => kernel_rfl
      refine RUN0 1 [] [(0, .v (.slice b_a b.length b_c)), (3, I ((z / 2 : Nat) : Int)), (4, I (k : Int)), (5, I (i : Int)), (6, B (((z % 2 : Nat) : Int) == 1))] ?_ rfl ?_
      · as_aux_lemma => kernel_rfl
      refine ENDOPS (NEXT (SEQ (REGION [0] rfl (RUN0 1 [] [(0, .v (.slice b_a b.length b_c)), (3, I ((z / 2 : Nat) : Int)), (4, I (k : Int)), (5, I (i : Int)), (29, B (((z % 2 : Nat) : Int) == 1))] ?_ rfl ?_))))
      · as_aux_lemma => kernel_rfl
      refine ENDOPS (NEXT (IF (((z % 2 : Nat) : Int) == 1) ?_ (fun bh6 => ?_) (fun bh6 => ?_)))
      · as_aux_lemma => kernel_rfl
      · -- ((z % 2 : Nat) : Int) == 1 = true
        have h6 := bh6
        have h6 := eq_of_beq h6
        refine REGION [0, 1, 2] rfl (RUN0 2 [2] [(0, .v (.slice b_a b.length b_c)), (4, I (k : Int)), (5, I (i : Int)), (31, I (wr (((BitVec.ofInt 64 ((z / 2 : Nat) : Int) ^^^ BitVec.ofInt 64 3988292384).toNat : Int))))] ?_ rfl ?_)
        · as_aux_lemma => kernel_rfl
        refine CAST (d := 31) (vi (wr (((BitVec.ofInt 64 ((z / 2 : Nat) : Int) ^^^ BitVec.ofInt 64 3988292384).toNat : Int)))) (vi (((z / 2) ^^^ 3988292384 : Nat) : Int)) ?_ (vi_xor (z / 2) 3988292384 (by omega) (by omega)) ?_
        · as_aux_lemma => kernel_rfl
        refine RUN0 1 [] [(0, .v (.slice b_a b.length b_c)), (3, I (((z / 2) ^^^ 3988292384 : Nat) : Int)), (4, I (k : Int)), (5, I (i : Int))] ?_ rfl ?_
        · as_aux_lemma => kernel_rfl
        refine ENDOPS (OUTN (NEXT (REGION [0, 1, 2] rfl (RUN0 2 [2] [(0, .v (.slice b_a b.length b_c)), (3, I (((z / 2) ^^^ 3988292384 : Nat) : Int)), (4, I (k : Int)), (23, I (wr ((i : Int) + 1)))] ?_ rfl ?_))))
        · as_aux_lemma => kernel_rfl
        refine CAST (d := 23) (vi (wr ((i : Int) + 1))) (vi ((i + 1 : Nat) : Int)) ?_ (vi_cast (by omega) (by omega)) ?_
        · as_aux_lemma => kernel_rfl
        refine RUN0 1 [] [(0, .v (.slice b_a b.length b_c)), (3, I (((z / 2) ^^^ 3988292384 : Nat) : Int)), (4, I (k : Int)), (5, I ((i + 1 : Nat) : Int))] ?_ rfl ?_
        · as_aux_lemma => kernel_rfl
        refine ENDOPS (BACK (i + 1, r5, (z / 2) ^^^ 3988292384) [0, 3, 4, 5] 0 [] _ ⟨by dsimp only; omega, hvi0.trans (by simp only [crcIt, crcStep]; split <;> first | rfl | (exfalso; omega)), (by first | (dsimp only; omega) | exact xor32 (by omega) (show 3988292384 < 4294967296 by decide))⟩ (by simp) ?_ rfl rfl rfl)
        · as_aux_lemma => kernel_rfl
      · -- ((z % 2 : Nat) : Int) == 1 = false
        have h6 := bh6
        have h6 := ne_of_beq_false h6
        refine SKIP (OUTN (NEXT (REGION [0, 1, 2] rfl (RUN0 2 [2] [(0, .v (.slice b_a b.length b_c)), (3, I ((z / 2 : Nat) : Int)), (4, I (k : Int)), (23, I (wr ((i : Int) + 1)))] ?_ rfl ?_))))
        · as_aux_lemma => kernel_rfl
        refine CAST (d := 23) (vi (wr ((i : Int) + 1))) (vi ((i + 1 : Nat) : Int)) ?_ (vi_cast (by omega) (by omega)) ?_
        · as_aux_lemma => kernel_rfl
        refine RUN0 1 [] [(0, .v (.slice b_a b.length b_c)), (3, I ((z / 2 : Nat) : Int)), (4, I (k : Int)), (5, I ((i + 1 : Nat) : Int))] ?_ rfl ?_
        · as_aux_lemma => kernel_rfl
        refine ENDOPS (BACK (i + 1, r5, z / 2) [0, 3, 4, 5] 0 [] _ ⟨by dsimp only; omega, hvi0.trans (by simp only [crcIt, crcStep]; split <;> first | rfl | (exfalso; omega)), (by first | (dsimp only; omega) | exact xor32 (by omega) (show 3988292384 < 4294967296 by decide))⟩ (by simp) ?_ rfl rfl rfl)
        · as_aux_lemma => kernel_rfl
    · -- decide ((i : Int) < 8) = false
      have h4 := bh4
      have h4 := of_decide_eq_false h4
      obtain rfl : r = 0 := by omega
      refine EXIT (PASS trivial (PASS trivial (OUT (OUTN (NEXT (REGION [0, 1, 2] rfl (RUN0 2 [2] [(0, .v (.slice b_a b.length b_c)), (3, I (z : Int)), (12, I (wr ((k : Int) + 1)))] ?_ rfl ?_)))))))
      · as_aux_lemma => kernel_rfl
      refine CAST (d := 12) (vi (wr ((k : Int) + 1))) (vi ((k + 1 : Nat) : Int)) ?_ (vi_cast (by omega) (by omega)) ?_
      · as_aux_lemma => kernel_rfl
      refine RUN0 1 [] [(0, .v (.slice b_a b.length b_c)), (3, I (z : Int)), (4, I ((k + 1 : Nat) : Int))] ?_ rfl ?_
      · as_aux_lemma => kernel_rfl
      refine ENDOPS (BACK (k + 1, ys3, z) [0, 3, 4] 0 [] _ ⟨hl_y2, hd_y2, hv0.trans ((crcGo_cons x y2 ys3).trans (congrArg (fun q => crcGo q ys3) (hvi0.trans (crcIt_zero z)))), by assumption⟩ (by simp) ?_ rfl rfl rfl)
      · as_aux_lemma => kernel_rfl
  · -- decide ((k : Int) < (b.length : Int)) = false
    have h1 := bh1
    have h1 := of_decide_eq_false h1
    obtain rfl := drop_nil hk (by omega)
    refine EXIT (PASS trivial (PASS trivial (OUT (NEXT (SEQ (REGION [0, 1, 2] rfl (RUN0 2 [2] [(33, I (wr (((BitVec.ofInt 64 (x : Int) ^^^ BitVec.ofInt 64 4294967295).toNat : Int))))] ?_ rfl ?_)))))))
    · as_aux_lemma => kernel_rfl
    refine CAST (d := 33) (vi (wr (((BitVec.ofInt 64 (x : Int) ^^^ BitVec.ofInt 64 4294967295).toNat : Int)))) (vi ((x ^^^ 4294967295 : Nat) : Int)) ?_ (vi_xor x 4294967295 (by omega) (by omega)) ?_
    · as_aux_lemma => kernel_rfl
    refine RUN0 1 [] [(2, I ((x ^^^ 4294967295 : Nat) : Int))] ?_ rfl ?_
    · as_aux_lemma => kernel_rfl
    refine ENDOPS (NEXT (RET (FIN (vi ((x ^^^ 4294967295 : Nat) : Int)) ?_ () ?_ [] ?_)))
    · as_aux_lemma => kernel_rfl
    · (simp only [RV, crc]; rw [hv0, crcGo_nil])
    · rfl

theorem iCrc_c (W : World) (b : List UInt8) (b_a : Option Addr) (b_c : Nat) (hb : Rd byteL W b_a b) : Spec Try.prog W [] 27 #[.slice b_a b.length b_c] (RV (vi ((crc b : Nat) : Int))) := by
  refine ENTER0 (N := 33) (vs := [.slice b_a b.length b_c]) Try.func27 rfl rfl (Nat.le_of_ble_eq_true rfl) ?_
  have hb_len := hb.len
  refine SEQ (REGION [0] rfl (RUN0 1 [] [(0, .v (.slice b_a b.length b_c))] ?_ rfl ?_))
  · as_aux_lemma => kernel_rfl
  refine ENDOPS (NEXT (SEQ (REGION [0] rfl (RUN0 1 [] [(0, .v (.slice b_a b.length b_c)), (3, I 4294967295)] ?_ rfl ?_))))
  · as_aux_lemma => kernel_rfl
  refine ENDOPS (NEXT (SEQ (SEQ (REGION [0, 1, 2] rfl (RUN0 3 [] [(3, I 4294967295), (8, .v (.slice b_a b.length b_c)), (9, I (b.length : Int)), (10, I 0)] ?_ rfl ?_)))))
  · as_aux_lemma => kernel_rfl
  refine ENDOPS (NEXT (BLOCK (LOOP (ι := Nat × (List UInt8) × Nat) (fun j => [(3, I (j.2.2 : Int)), (8, .v (.slice b_a b.length b_c)), (9, I (b.length : Int)), (10, I (j.1 : Int))]) (fun j => []) (fun j => []) (fun j => j.1 + j.2.1.length = b.length ∧ b.drop j.1 = j.2.1 ∧ crcGo 4294967295 b = crcGo j.2.2 j.2.1 ∧ j.2.2 < 4294967296) (fun j => j.2.1.length) (0, b, 4294967295) [3, 8, 9, 10] ⟨by simp, rfl, rfl, by dsimp only; omega⟩ ?_ rfl rfl ?_)))
  · as_aux_lemma => kernel_rfl
  rintro ⟨k, ys, x⟩ ⟨hk, hd, hv0, hv1⟩
  try dsimp only at hk hd hv0 hv1
  refine SEQ (REGION [0] rfl (RUN0 1 [] [(3, I (x : Int)), (8, .v (.slice b_a b.length b_c)), (9, I (b.length : Int)), (10, I (k : Int)), (11, B (decide ((k : Int) < (b.length : Int))))] ?_ rfl ?_))
  · as_aux_lemma => kernel_rfl
  refine ENDOPS (NEXT (SEQ (IF (decide ((k : Int) < (b.length : Int))) ?_ (fun bh1 => ?_) (fun bh1 => ?_))))
  · as_aux_lemma => kernel_rfl
  · -- decide ((k : Int) < (b.length : Int)) = true
    have h1 := bh1
    have h1 := of_decide_eq_true h1
    obtain ⟨y2, ys3, rfl, hx_y2, hd_y2, hl_y2⟩ := drop_cons hd hk (by omega)
    have := UInt8.toNat_lt y2
    refine SKIP (NEXT (SEQ (BLOCK (SEQ (REGION [0, 1, 2] rfl (OPC (INDEX 22 (.tmp 8) (.tmp 10) 12 0 ?_ (Nat.le_of_ble_eq_true rfl) b_a b.length b_c .i64 (k : Int) 5 1 ?_ ?_ ?_ ?_ (Rd.some hb (by omega)) (by omega) (by omega) ?_)))))))
    · as_aux_lemma => kernel_rfl
    · as_aux_lemma => kernel_rfl
    · as_aux_lemma => kernel_rfl
    · as_aux_lemma => kernel_rfl
    · as_aux_lemma => kernel_rfl
    refine OPC (LOADE 5 (.tmp 12) 13 5 ?_ (Nat.le_of_ble_eq_true rfl) b_a (k * 1) 0 [.int .u8 (y2.toNat : Int)] (.int .u8 (y2.toNat : Int)) ?_ (fun w hw => (hb.fr hw.fr).flat hx_y2) ?_ ?_)
    · as_aux_lemma => kernel_rfl
    · as_aux_lemma => kernel_rfl
    · as_aux_lemma => kernel_rfl
    refine RUN0 1 [] [(3, I (x : Int)), (5, .v (.int .u8 (y2.toNat : Int))), (8, .v (.slice b_a b.length b_c)), (9, I (b.length : Int)), (10, I (k : Int))] ?_ rfl ?_
    · as_aux_lemma => kernel_rfl
    refine ENDOPS (NEXT (SEQ (REGION [0, 1, 2, 3, 4] rfl (RUN0 3 [3, 4] [(8, .v (.slice b_a b.length b_c)), (9, I (b.length : Int)), (10, I (k : Int)), (14, I (x : Int)), (16, I (IntKind.wrap .i64 (y2.toNat : Int)))] ?_ rfl ?_))))
    · as_aux_lemma => kernel_rfl
    refine CAST (d := 16) (vi (IntKind.wrap .i64 (y2.toNat : Int))) (vi (y2.toNat : Int)) ?_ (vi_u8 y2) ?_
    · as_aux_lemma => kernel_rfl
    refine RUN0 1 [4] [(8, .v (.slice b_a b.length b_c)), (9, I (b.length : Int)), (10, I (k : Int)), (17, I (wr (((BitVec.ofInt 64 (x : Int) ^^^ BitVec.ofInt 64 (y2.toNat : Int)).toNat : Int))))] ?_ rfl ?_
    · as_aux_lemma => kernel_rfl
    refine CAST (d := 17) (vi (wr (((BitVec.ofInt 64 (x : Int) ^^^ BitVec.ofInt 64 (y2.toNat : Int)).toNat : Int)))) (vi ((x ^^^ y2.toNat : Nat) : Int)) ?_ (vi_xor x y2.toNat (by omega) (by omega)) ?_
    · as_aux_lemma => kernel_rfl
    refine RUN0 1 [] [(3, I ((x ^^^ y2.toNat : Nat) : Int)), (8, .v (.slice b_a b.length b_c)), (9, I (b.length : Int)), (10, I (k : Int))] ?_ rfl ?_
    · as_aux_lemma => kernel_rfl
    refine ENDOPS (NEXT (SEQ (REGION [0] rfl (RUN0 1 [] [(3, I ((x ^^^ y2.toNat : Nat) : Int)), (6, I 0), (8, .v (.slice b_a b.length b_c)), (9, I (b.length : Int)), (10, I (k : Int))] ?_ rfl ?_))))
    · as_aux_lemma => kernel_rfl
    refine ENDOPS (NEXT (BLOCK (LOOP (ι := Nat × Nat × Nat) (fun j => [(3, I (j.2.2 : Int)), (6, I (j.1 : Int)), (8, .v (.slice b_a b.length b_c)), (9, I (b.length : Int)), (10, I (k : Int))]) (fun j => []) (fun j => []) (fun j => j.1 + j.2.1 = 8 ∧ crcIt 8 (x ^^^ y2.toNat) = crcIt j.2.1 j.2.2 ∧ j.2.2 < 4294967296) (fun j => j.2.1) (0, 8, x ^^^ y2.toNat) [3, 6, 8, 9, 10] ⟨by simp, rfl, crc8_lt hv1 _⟩ ?_ rfl rfl ?_)))
    · as_aux_lemma => kernel_rfl
    rintro ⟨i, r, z⟩ ⟨hki, hvi0, hvi1⟩
    try dsimp only at hki hvi0 hvi1
    refine SEQ (SEQ (REGION [0, 1] rfl (RUN0 2 [] [(3, I (z : Int)), (6, I (i : Int)), (8, .v (.slice b_a b.length b_c)), (9, I (b.length : Int)), (10, I (k : Int)), (19, B (decide ((i : Int) < 8)))] ?_ rfl ?_)))
    · as_aux_lemma => kernel_rfl
    refine ENDOPS (NEXT (IF (decide ((i : Int) < 8)) ?_ (fun bh4 => ?_) (fun bh4 => ?_)))
    · as_aux_lemma => kernel_rfl
    · -- decide ((i : Int) < 8) = true
      have h4 := bh4
      have h4 := of_decide_eq_true h4
      obtain ⟨r5, rfl⟩ : ∃ z, r = z + 1 := ⟨r - 1, by omega⟩
      refine SKIP (NEXT (SEQ (BLOCK (SEQ (REGION [0, 1, 2] rfl (RUN0 2 [2] [(3, I (z : Int)), (6, I (i : Int)), (8, .v (.slice b_a b.length b_c)), (9, I (b.length : Int)), (10, I (k : Int)), (23, I (wr (((BitVec.ofInt 64 (z : Int) &&& BitVec.ofInt 64 1).toNat : Int))))] ?_ rfl ?_))))))
      · as_aux_lemma => kernel_rfl
      refine CAST (d := 23) (vi (wr (((BitVec.ofInt 64 (z : Int) &&& BitVec.ofInt 64 1).toNat : Int)))) (vi ((z % 2 : Nat) : Int)) ?_ (vi_and1 z (by omega)) ?_
      · as_aux_lemma => kernel_rfl
      refine RUN0 1 [] [(3, I (z : Int)), (6, I (i : Int)), (7, I ((z % 2 : Nat) : Int)), (8, .v (.slice b_a b.length b_c)), (9, I (b.length : Int)), (10, I (k : Int))] ?_ rfl ?_
      · as_aux_lemma => kernel_rfl
      refine ENDOPS (NEXT (SEQ (REGION [0, 1, 2] rfl (RUN0 2 [2] [(6, I (i : Int)), (7, I ((z % 2 : Nat) : Int)), (8, .v (.slice b_a b.length b_c)), (9, I (b.length : Int)), (10, I (k : Int)), (25, I (Int.fdiv (z : Int) (2 ^ 1)))] ?_ rfl ?_))))
      · as_aux_lemma => kernel_rfl
      refine CAST (d := 25) (vi (Int.fdiv (z : Int) (2 ^ 1))) (vi ((z / 2 ^ 1 : Nat) : Int)) ?_ (vi_shr z 1) ?_
      · as_aux_lemma => kernel_rfl
      refine RUN0 1 [] [(3, I ((z / 2 ^ 1 : Nat) : Int)), (6, I (i : Int)), (7, I ((z % 2 : Nat) : Int)), (8, .v (.slice b_a b.length b_c)), (9, I (b.length : Int)), (10, I (k : Int))] ?_ rfl ?_
      · as_aux_lemma => kernel_rfl
      refine ENDOPS (NEXT (SEQ (REGION [0, 1] rfl (RUN0 2 [] [(3, I ((z / 2 ^ 1 : Nat) : Int)), (6, I (i : Int)), (8, .v (.slice b_a b.length b_c)), (9, I (b.length : Int)), (10, I (k : Int)), (27, B (((z % 2 : Nat) : Int) == 1))] ?_ rfl ?_))))
      · as_aux_lemma => kernel_rfl
      refine ENDOPS (NEXT (IF (((z % 2 : Nat) : Int) == 1) ?_ (fun bh6 => ?_) (fun bh6 => ?_)))
      · as_aux_lemma => kernel_rfl
      · -- ((z % 2 : Nat) : Int) == 1 = true
        have h6 := bh6
        have h6 := eq_of_beq h6
        refine REGION [0, 1, 2] rfl (RUN0 2 [2] [(6, I (i : Int)), (8, .v (.slice b_a b.length b_c)), (9, I (b.length : Int)), (10, I (k : Int)), (29, I (wr (((BitVec.ofInt 64 ((z / 2 ^ 1 : Nat) : Int) ^^^ BitVec.ofInt 64 3988292384).toNat : Int))))] ?_ rfl ?_)
        · as_aux_lemma => kernel_rfl
        refine CAST (d := 29) (vi (wr (((BitVec.ofInt 64 ((z / 2 ^ 1 : Nat) : Int) ^^^ BitVec.ofInt 64 3988292384).toNat : Int)))) (vi (((z / 2 ^ 1) ^^^ 3988292384 : Nat) : Int)) ?_ (vi_xor (z / 2 ^ 1) 3988292384 (by omega) (by omega)) ?_
        · as_aux_lemma => kernel_rfl
        refine RUN0 1 [] [(3, I (((z / 2 ^ 1) ^^^ 3988292384 : Nat) : Int)), (6, I (i : Int)), (8, .v (.slice b_a b.length b_c)), (9, I (b.length : Int)), (10, I (k : Int))] ?_ rfl ?_
        · as_aux_lemma => kernel_rfl
        refine ENDOPS (OUTN (NEXT (REGION [0, 1, 2] rfl (RUN0 2 [2] [(3, I (((z / 2 ^ 1) ^^^ 3988292384 : Nat) : Int)), (8, .v (.slice b_a b.length b_c)), (9, I (b.length : Int)), (10, I (k : Int)), (21, I (wr ((i : Int) + 1)))] ?_ rfl ?_))))
        · as_aux_lemma => kernel_rfl
        refine CAST (d := 21) (vi (wr ((i : Int) + 1))) (vi ((i + 1 : Nat) : Int)) ?_ (vi_cast (by omega) (by omega)) ?_
        · as_aux_lemma => kernel_rfl
        refine RUN0 1 [] [(3, I (((z / 2 ^ 1) ^^^ 3988292384 : Nat) : Int)), (6, I ((i + 1 : Nat) : Int)), (8, .v (.slice b_a b.length b_c)), (9, I (b.length : Int)), (10, I (k : Int))] ?_ rfl ?_
        · as_aux_lemma => kernel_rfl
        refine ENDOPS (BACK (i + 1, r5, (z / 2 ^ 1) ^^^ 3988292384) [3, 6, 8, 9, 10] 0 [] _ ⟨by dsimp only; omega, hvi0.trans (by simp only [crcIt, crcStep]; split <;> first | rfl | (exfalso; omega)), (by first | (dsimp only; omega) | exact xor32 (by omega) (show 3988292384 < 4294967296 by decide))⟩ (by simp) ?_ rfl rfl rfl)
        · as_aux_lemma => kernel_rfl
      · -- ((z % 2 : Nat) : Int) == 1 = false
        have h6 := bh6
        have h6 := ne_of_beq_false h6
        refine SKIP (OUTN (NEXT (REGION [0, 1, 2] rfl (RUN0 2 [2] [(3, I ((z / 2 ^ 1 : Nat) : Int)), (8, .v (.slice b_a b.length b_c)), (9, I (b.length : Int)), (10, I (k : Int)), (21, I (wr ((i : Int) + 1)))] ?_ rfl ?_))))
        · as_aux_lemma => kernel_rfl
        refine CAST (d := 21) (vi (wr ((i : Int) + 1))) (vi ((i + 1 : Nat) : Int)) ?_ (vi_cast (by omega) (by omega)) ?_
        · as_aux_lemma => kernel_rfl
        refine RUN0 1 [] [(3, I ((z / 2 ^ 1 : Nat) : Int)), (6, I ((i + 1 : Nat) : Int)), (8, .v (.slice b_a b.length b_c)), (9, I (b.length : Int)), (10, I (k : Int))] ?_ rfl ?_
        · as_aux_lemma => kernel_rfl
        refine ENDOPS (BACK (i + 1, r5, z / 2 ^ 1) [3, 6, 8, 9, 10] 0 [] _ ⟨by dsimp only; omega, hvi0.trans (by simp only [crcIt, crcStep]; split <;> first | rfl | (exfalso; omega)), (by first | (dsimp only; omega) | exact xor32 (by omega) (show 3988292384 < 4294967296 by decide))⟩ (by simp) ?_ rfl rfl rfl)
        · as_aux_lemma => kernel_rfl
    · -- decide ((i : Int) < 8) = false
      have h4 := bh4
      have h4 := of_decide_eq_false h4
      obtain rfl : r = 0 := by omega
      refine EXIT (PASS trivial (PASS trivial (OUT (OUTN (NEXT (REGION [0, 1] rfl (RUN0 1 [1] [(3, I (z : Int)), (8, .v (.slice b_a b.length b_c)), (9, I (b.length : Int)), (30, I (wr ((k : Int) + 1)))] ?_ rfl ?_)))))))
      · as_aux_lemma => kernel_rfl
      refine CAST (d := 30) (vi (wr ((k : Int) + 1))) (vi ((k + 1 : Nat) : Int)) ?_ (vi_cast (by omega) (by omega)) ?_
      · as_aux_lemma => kernel_rfl
      refine RUN0 1 [] [(3, I (z : Int)), (8, .v (.slice b_a b.length b_c)), (9, I (b.length : Int)), (10, I ((k + 1 : Nat) : Int))] ?_ rfl ?_
      · as_aux_lemma => kernel_rfl
      refine ENDOPS (BACK (k + 1, ys3, z) [3, 8, 9, 10] 0 [] _ ⟨hl_y2, hd_y2, hv0.trans ((crcGo_cons x y2 ys3).trans (congrArg (fun q => crcGo q ys3) (hvi0.trans (crcIt_zero z)))), by assumption⟩ (by simp) ?_ rfl rfl rfl)
      · as_aux_lemma => kernel_rfl
  · -- decide ((k : Int) < (b.length : Int)) = false
    have h1 := bh1
    have h1 := of_decide_eq_false h1
    obtain rfl := drop_nil hk (by omega)
    refine EXIT (PASS trivial (PASS trivial (OUT (NEXT (SEQ (REGION [0, 1, 2] rfl (RUN0 2 [2] [(32, I (wr (((BitVec.ofInt 64 (x : Int) ^^^ BitVec.ofInt 64 4294967295).toNat : Int))))] ?_ rfl ?_)))))))
    · as_aux_lemma => kernel_rfl
    refine CAST (d := 32) (vi (wr (((BitVec.ofInt 64 (x : Int) ^^^ BitVec.ofInt 64 4294967295).toNat : Int)))) (vi ((x ^^^ 4294967295 : Nat) : Int)) ?_ (vi_xor x 4294967295 (by omega) (by omega)) ?_
    · as_aux_lemma => kernel_rfl
    refine RUN0 1 [] [(2, I ((x ^^^ 4294967295 : Nat) : Int))] ?_ rfl ?_
    · as_aux_lemma => kernel_rfl
    refine ENDOPS (NEXT (RET (FIN (vi ((x ^^^ 4294967295 : Nat) : Int)) ?_ () ?_ [] ?_)))
    · as_aux_lemma => kernel_rfl
    · (simp only [RV, crc]; rw [hv0, crcGo_nil])
    · rfl

theorem four_c (W : World) (n : Int) : Spec Try.prog W [] 46 #[vi n] (RV (.string (bs (four n)))) := by
  refine ENTER0 (N := 16) (vs := [vi n]) Try.func46 rfl rfl (Nat.le_of_ble_eq_true rfl) ?_
  refine SEQ (REGION [0] rfl (RUN0 1 [] [(0, I n)] ?_ rfl ?_))
  · as_aux_lemma => kernel_rfl
  refine ENDOPS (NEXT (SEQ (REGION [0, 1, 2, 3, 4, 5, 6, 7, 8, 9, 10, 11, 12, 13] rfl (RUN0 3 [3, 4, 5, 6, 7, 8, 9, 10, 11, 12, 13] [(0, I n), (5, .v (.int .u8 (IntKind.wrap .u8 (Int.fdiv n (2 ^ 24)))))] ?_ rfl ?_))))
  · as_aux_lemma => kernel_rfl
  refine CAST (d := 5) (.int .u8 (IntKind.wrap .u8 (Int.fdiv n (2 ^ 24)))) (.int .u8 (((byteOf (Int.fdiv n (2 ^ 24))).toNat : Nat) : Int)) ?_ (v8 (Int.fdiv n (2 ^ 24))) ?_
  · as_aux_lemma => kernel_rfl
  refine RUN0 3 [6, 7, 8, 9, 10, 11, 12, 13] [(0, I n), (5, .v (.int .u8 (((byteOf (Int.fdiv n (2 ^ 24))).toNat : Nat) : Int))), (8, .v (.int .u8 (IntKind.wrap .u8 (Int.fdiv n (2 ^ 16)))))] ?_ rfl ?_
  · as_aux_lemma => kernel_rfl
  refine CAST (d := 8) (.int .u8 (IntKind.wrap .u8 (Int.fdiv n (2 ^ 16)))) (.int .u8 (((byteOf (Int.fdiv n (2 ^ 16))).toNat : Nat) : Int)) ?_ (v8 (Int.fdiv n (2 ^ 16))) ?_
  · as_aux_lemma => kernel_rfl
  refine RUN0 3 [9, 10, 11, 12, 13] [(0, I n), (5, .v (.int .u8 (((byteOf (Int.fdiv n (2 ^ 24))).toNat : Nat) : Int))), (8, .v (.int .u8 (((byteOf (Int.fdiv n (2 ^ 16))).toNat : Nat) : Int))), (11, .v (.int .u8 (IntKind.wrap .u8 (Int.fdiv n (2 ^ 8)))))] ?_ rfl ?_
  · as_aux_lemma => kernel_rfl
  refine CAST (d := 11) (.int .u8 (IntKind.wrap .u8 (Int.fdiv n (2 ^ 8)))) (.int .u8 (((byteOf (Int.fdiv n (2 ^ 8))).toNat : Nat) : Int)) ?_ (v8 (Int.fdiv n (2 ^ 8))) ?_
  · as_aux_lemma => kernel_rfl
  refine RUN0 2 [11, 12, 13] [(5, .v (.int .u8 (((byteOf (Int.fdiv n (2 ^ 24))).toNat : Nat) : Int))), (8, .v (.int .u8 (((byteOf (Int.fdiv n (2 ^ 16))).toNat : Nat) : Int))), (11, .v (.int .u8 (((byteOf (Int.fdiv n (2 ^ 8))).toNat : Nat) : Int))), (13, .v (.int .u8 (IntKind.wrap .u8 n)))] ?_ rfl ?_
  · as_aux_lemma => kernel_rfl
  refine CAST (d := 13) (.int .u8 (IntKind.wrap .u8 n)) (.int .u8 (((byteOf n).toNat : Nat) : Int)) ?_ (v8 n) ?_
  · as_aux_lemma => kernel_rfl
  refine OPC (BUILDS 22 4 #[(0, .tmp 5), (1, .tmp 8), (2, .tmp 11), (3, .tmp 13)] 14 22 ?_ (Nat.le_of_ble_eq_true rfl) 5 [.int .u8 (((byteOf (Int.fdiv n (2 ^ 24))).toNat : Nat) : Int), .int .u8 (((byteOf (Int.fdiv n (2 ^ 16))).toNat : Nat) : Int), .int .u8 (((byteOf (Int.fdiv n (2 ^ 8))).toNat : Nat) : Int), .int .u8 (((byteOf n).toNat : Nat) : Int)] ?_ byteL ([byteOf (Int.fdiv n (2 ^ 24)), byteOf (Int.fdiv n (2 ^ 16)), byteOf (Int.fdiv n (2 ^ 8)), byteOf n] : List UInt8) rfl (by simp only [maxLen]; omega) [] [] _ rfl (flatRep rfl) (fun a1 ha2 => ?_))
  · as_aux_lemma => kernel_rfl
  · as_aux_lemma => kernel_rfl
  refine FACT (4 = ([byteOf (Int.fdiv n (2 ^ 24)), byteOf (Int.fdiv n (2 ^ 16)), byteOf (Int.fdiv n (2 ^ 8)), byteOf n] : List UInt8).length) (fun w hw => (SlO.lenE (hw.own 0 rfl)).1) (fun hln3 => ?_)
  refine OPC (RUNV (.convert 22 9 (.tmp 14)) 15 9 ?_ (Nat.le_of_ble_eq_true rfl) (.string (bs ([byteOf (Int.fdiv n (2 ^ 24)), byteOf (Int.fdiv n (2 ^ 16)), byteOf (Int.fdiv n (2 ^ 8)), byteOf n] : List UInt8))) (runs_bstr (a := a1) (n := 4) (c := 4) (xs := ([byteOf (Int.fdiv n (2 ^ 24)), byteOf (Int.fdiv n (2 ^ 16)), byteOf (Int.fdiv n (2 ^ 8)), byteOf n] : List UInt8)) (e := 5) ?_ ?_ ?_ ?_ hln3.symm (fun w hw => (hw.rdO 0 rfl))) ?_)
  · as_aux_lemma => kernel_rfl
  · as_aux_lemma => kernel_rfl
  · as_aux_lemma => kernel_rfl
  · as_aux_lemma => kernel_rfl
  · as_aux_lemma => kernel_rfl
  refine RUN0 1 [] [(2, .v (.string (bs ([byteOf (Int.fdiv n (2 ^ 24)), byteOf (Int.fdiv n (2 ^ 16)), byteOf (Int.fdiv n (2 ^ 8)), byteOf n] : List UInt8))))] ?_ rfl ?_
  · as_aux_lemma => kernel_rfl
  refine ENDOPS (NEXT (RET (FIN (.string (bs ([byteOf (Int.fdiv n (2 ^ 24)), byteOf (Int.fdiv n (2 ^ 16)), byteOf (Int.fdiv n (2 ^ 8)), byteOf n] : List UInt8))) ?_ () ?_ [] ?_)))
  · as_aux_lemma => kernel_rfl
  · simp [RV, four]
  · rfl

theorem sNums_c (W : World) (list : List Int) (list_a : Option Addr) (list_c : Nat) (hlist : Rd intL W list_a list) (hb : list.length ≤ 1048576) : Spec Try.prog W [] 43 #[.slice list_a list.length list_c] (RV (.string (bs (putNums list)))) := by
  refine ENTER0 (N := 21) (vs := [.slice list_a list.length list_c]) Try.func43 rfl rfl (Nat.le_of_ble_eq_true rfl) ?_
  have hlist_len := hlist.len
  refine SEQ (REGION [0] rfl (RUN0 1 [] [(0, .v (.slice list_a list.length list_c))] ?_ rfl ?_))
  · as_aux_lemma => kernel_rfl
  refine ENDOPS (NEXT (SEQ (REGION [0, 1] rfl (OPC (BUILDS 22 0 #[] 5 22 ?_ (Nat.le_of_ble_eq_true rfl) 5 [] ?_ byteL [] rfl (by simp only [maxLen]; omega) [] [] _ rfl (flatRep rfl) (fun a1 ha2 => ?_))))))
  · as_aux_lemma => kernel_rfl
  · as_aux_lemma => kernel_rfl
  refine RUN0 1 [] [(0, .v (.slice list_a list.length list_c)), (3, .v (.slice a1 0 0))] ?_ rfl ?_
  · as_aux_lemma => kernel_rfl
  refine ENDOPS (NEXT (SEQ (SEQ (REGION [0] rfl (RUN0 1 [] [(0, .v (.slice list_a list.length list_c)), (3, .v (.slice a1 0 0)), (4, I 0)] ?_ rfl ?_)))))
  · as_aux_lemma => kernel_rfl
  refine ENDOPS (NEXT (BLOCK (LOOP (ι := Nat × (List Int) × (Option Addr) × Nat × (List UInt8)) (fun j => [(0, .v (.slice list_a list.length list_c)), (3, .v (.slice j.2.2.1 j.2.2.2.2.length j.2.2.2.1)), (4, I (j.1 : Int))]) (fun j => []) (fun j => [slA 5 byteL (.slice j.2.2.1 j.2.2.2.2.length j.2.2.2.1) j.2.2.2.2]) (fun j => j.1 + j.2.1.length = list.length ∧ list.drop j.1 = j.2.1 ∧ putNums list = j.2.2.2.2 ++ putNums j.2.1 ∧ j.2.2.2.2.length ≤ 5 * j.1) (fun j => j.2.1.length) (0, list, a1, 0, []) [0, 3, 4] ⟨by simp, rfl, rfl, by simp⟩ ?_ rfl rfl ?_)))
  · as_aux_lemma => kernel_rfl
  rintro ⟨k, ys, oa, oc, out⟩ ⟨hk, hd, hv0, hv1⟩
  try dsimp only at hk hd hv0 hv1
  refine SEQ (SEQ (REGION [0, 1, 2, 3] rfl (RUN0 4 [] [(0, .v (.slice list_a list.length list_c)), (3, .v (.slice oa out.length oc)), (4, I (k : Int)), (9, B (decide ((k : Int) < (list.length : Int))))] ?_ rfl ?_)))
  · as_aux_lemma => kernel_rfl
  refine ENDOPS (NEXT (IF (decide ((k : Int) < (list.length : Int))) ?_ (fun bh3 => ?_) (fun bh3 => ?_)))
  · as_aux_lemma => kernel_rfl
  · -- decide ((k : Int) < (list.length : Int)) = true
    have h3 := bh3
    have h3 := of_decide_eq_true h3
    obtain ⟨y4, ys5, rfl, hx_y4, hd_y4, hl_y4⟩ := drop_cons hd hk (by omega)
    refine SKIP (NEXT (SEQ (BLOCK (REGION [0, 1, 2, 3, 4, 5, 6, 7] rfl (RUN0 3 [3, 4, 5, 6, 7] [(0, .v (.slice list_a list.length list_c)), (4, I (k : Int)), (12, .v (.slice oa out.length oc)), (13, .v (.slice list_a list.length list_c)), (14, I (k : Int))] ?_ rfl ?_)))))
    · as_aux_lemma => kernel_rfl
    refine OPC (INDEX 39 (.tmp 13) (.tmp 14) 15 0 ?_ (Nat.le_of_ble_eq_true rfl) list_a list.length list_c .i64 (k : Int) 3 1 ?_ ?_ ?_ ?_ (Rd.some hlist (by omega)) (by omega) (by omega) ?_)
    · as_aux_lemma => kernel_rfl
    · as_aux_lemma => kernel_rfl
    · as_aux_lemma => kernel_rfl
    · as_aux_lemma => kernel_rfl
    · as_aux_lemma => kernel_rfl
    refine OPC (LOADE 3 (.tmp 15) 16 3 ?_ (Nat.le_of_ble_eq_true rfl) list_a (k * 1) 0 [vi y4] (vi y4) ?_ (fun w hw => (hlist.fr hw.fr).flat hx_y4) ?_ ?_)
    · as_aux_lemma => kernel_rfl
    · as_aux_lemma => kernel_rfl
    · as_aux_lemma => kernel_rfl
    refine OPC (CALL 45 #[vi y4] (some 17) ?_ [] [] _ rfl (⟨HH, fun p => .slice p.1 ((putNum y4).length) p.2, fun p => [slA 5 byteL (.slice p.1 (putNum y4).length p.2) (putNum y4)]⟩) (fun w hw => sPutNum_c w y4) (by rintro _ ⟨⟩; exact Nat.le_of_ble_eq_true rfl) ?_)
    · as_aux_lemma => kernel_rfl
    rintro ⟨a6, c7⟩
    have hr8 := putNum_len y4
    refine OPC (APPENDR 22 (.tmp 12) (.tmp 17) 18 22 ?_ (Nat.le_of_ble_eq_true rfl) (.slice oa out.length oc) a6 ((putNum y4).length) c7 ?_ ?_ 5 ?_ (.int .u8 0) 1 ?_ rfl (by decide) 0 out (putNum y4) _ rfl rfl (fun w hw => (hw.rdO 1 rfl)) (by have := putNum_len y4; omega) (by have := putNum_len y4; simp only [maxLen]; omega) (fun a9 c10 hn11 => ?_))
    · as_aux_lemma => kernel_rfl
    · as_aux_lemma => kernel_rfl
    · as_aux_lemma => kernel_rfl
    · as_aux_lemma => kernel_rfl
    · as_aux_lemma => kernel_rfl
    refine RUN0 1 [] [(0, .v (.slice list_a list.length list_c)), (3, .v (.slice a9 ((out ++ (putNum y4)).length) c10)), (4, I (k : Int))] ?_ rfl ?_
    · as_aux_lemma => kernel_rfl
    refine ENDOPS (OUTN (NEXT (REGION [0, 1, 2] rfl (RUN0 2 [2] [(0, .v (.slice list_a list.length list_c)), (3, .v (.slice a9 ((out ++ (putNum y4)).length) c10)), (11, I (wr ((k : Int) + 1)))] ?_ rfl ?_))))
    · as_aux_lemma => kernel_rfl
    refine CAST (d := 11) (vi (wr ((k : Int) + 1))) (vi ((k + 1 : Nat) : Int)) ?_ (vi_cast (by omega) (by omega)) ?_
    · as_aux_lemma => kernel_rfl
    refine RUN0 1 [] [(0, .v (.slice list_a list.length list_c)), (3, .v (.slice a9 ((out ++ (putNum y4)).length) c10)), (4, I ((k + 1 : Nat) : Int))] ?_ rfl ?_
    · as_aux_lemma => kernel_rfl
    refine ENDOPS (BACK (k + 1, ys5, a9, c10, out ++ (putNum y4)) [0, 3, 4] 0 [1] _ ⟨hl_y4, hd_y4, hv0.trans (by simp [putNums]), by have := putNum_len y4; simp only [List.length_append]; omega⟩ (by simp) ?_ rfl rfl rfl)
    · as_aux_lemma => kernel_rfl
  · -- decide ((k : Int) < (list.length : Int)) = false
    have h3 := bh3
    have h3 := of_decide_eq_false h3
    obtain rfl := drop_nil hk (by omega)
    refine EXIT (PASS trivial (PASS trivial (OUT (NEXT (SEQ (REGION [0, 1, 2] rfl (RUN0 1 [1, 2] [(19, .v (.slice oa out.length oc))] ?_ rfl ?_)))))))
    · as_aux_lemma => kernel_rfl
    refine OPC (RUNV (.convert 22 9 (.tmp 19)) 20 9 ?_ (Nat.le_of_ble_eq_true rfl) (.string (bs out)) (runs_bstr (a := oa) (n := out.length) (c := oc) (xs := out) (e := 5) ?_ ?_ ?_ ?_ rfl (fun w hw => (hw.rdO 0 rfl))) ?_)
    · as_aux_lemma => kernel_rfl
    · as_aux_lemma => kernel_rfl
    · as_aux_lemma => kernel_rfl
    · as_aux_lemma => kernel_rfl
    · as_aux_lemma => kernel_rfl
    refine RUN0 1 [] [(2, .v (.string (bs out)))] ?_ rfl ?_
    · as_aux_lemma => kernel_rfl
    refine ENDOPS (NEXT (RET (FIN (.string (bs out)) ?_ () ?_ [] ?_)))
    · as_aux_lemma => kernel_rfl
    · (simp only [RV, hv0]; simp [putNums])
    · rfl

theorem iNums_c (W : World) (list : List Int) (list_a : Option Addr) (list_c : Nat) (hlist : Rd intL W list_a list) (hb : list.length ≤ 1048576) : Spec Try.prog W [] 29 #[.slice list_a list.length list_c] (RV (.string (bs (putNums list)))) := by
  refine ENTER0 (N := 19) (vs := [.slice list_a list.length list_c]) Try.func29 rfl rfl (Nat.le_of_ble_eq_true rfl) ?_
  have hlist_len := hlist.len
  refine SEQ (REGION [0] rfl (RUN0 1 [] [(0, .v (.slice list_a list.length list_c))] ?_ rfl ?_))
  · as_aux_lemma => kernel_rfl
  refine ENDOPS (NEXT (SEQ (REGION [0] rfl (RUN0 1 [] [(0, .v (.slice list_a list.length list_c)), (3, .v (.slice none 0 0))] ?_ rfl ?_))))
  · as_aux_lemma => kernel_rfl
  refine ENDOPS (NEXT (SEQ (SEQ (REGION [0, 1, 2] rfl (RUN0 3 [] [(3, .v (.slice none 0 0)), (6, .v (.slice list_a list.length list_c)), (7, I (list.length : Int)), (8, I 0)] ?_ rfl ?_)))))
  · as_aux_lemma => kernel_rfl
  refine ENDOPS (NEXT (BLOCK (NIL 5 byteL ?_)))
  refine LOOP (ι := Nat × (List Int) × (Option Addr) × Nat × (List UInt8)) (fun j => [(3, .v (.slice j.2.2.1 j.2.2.2.2.length j.2.2.2.1)), (6, .v (.slice list_a list.length list_c)), (7, I (list.length : Int)), (8, I (j.1 : Int))]) (fun j => []) (fun j => [slA 5 byteL (.slice j.2.2.1 j.2.2.2.2.length j.2.2.2.1) j.2.2.2.2]) (fun j => j.1 + j.2.1.length = list.length ∧ list.drop j.1 = j.2.1 ∧ putNums list = j.2.2.2.2 ++ putNums j.2.1 ∧ j.2.2.2.2.length ≤ 5 * j.1) (fun j => j.2.1.length) (0, list, none, 0, []) [3, 6, 7, 8] ⟨by simp, rfl, rfl, by simp⟩ ?_ rfl rfl ?_
  · as_aux_lemma => kernel_rfl
  rintro ⟨k, ys, oa, oc, out⟩ ⟨hk, hd, hv0, hv1⟩
  try dsimp only at hk hd hv0 hv1
  refine SEQ (REGION [0] rfl (RUN0 1 [] [(3, .v (.slice oa out.length oc)), (6, .v (.slice list_a list.length list_c)), (7, I (list.length : Int)), (8, I (k : Int)), (9, B (decide ((k : Int) < (list.length : Int))))] ?_ rfl ?_))
  · as_aux_lemma => kernel_rfl
  refine ENDOPS (NEXT (SEQ (IF (decide ((k : Int) < (list.length : Int))) ?_ (fun bh1 => ?_) (fun bh1 => ?_))))
  · as_aux_lemma => kernel_rfl
  · -- decide ((k : Int) < (list.length : Int)) = true
    have h1 := bh1
    have h1 := of_decide_eq_true h1
    obtain ⟨y2, ys3, rfl, hx_y2, hd_y2, hl_y2⟩ := drop_cons hd hk (by omega)
    refine SKIP (NEXT (SEQ (BLOCK (SEQ (REGION [0, 1, 2] rfl (OPC (INDEX 39 (.tmp 6) (.tmp 8) 10 0 ?_ (Nat.le_of_ble_eq_true rfl) list_a list.length list_c .i64 (k : Int) 3 1 ?_ ?_ ?_ ?_ (Rd.some hlist (by omega)) (by omega) (by omega) ?_)))))))
    · as_aux_lemma => kernel_rfl
    · as_aux_lemma => kernel_rfl
    · as_aux_lemma => kernel_rfl
    · as_aux_lemma => kernel_rfl
    · as_aux_lemma => kernel_rfl
    refine OPC (LOADE 3 (.tmp 10) 11 3 ?_ (Nat.le_of_ble_eq_true rfl) list_a (k * 1) 0 [vi y2] (vi y2) ?_ (fun w hw => (hlist.fr hw.fr).flat hx_y2) ?_ ?_)
    · as_aux_lemma => kernel_rfl
    · as_aux_lemma => kernel_rfl
    · as_aux_lemma => kernel_rfl
    refine RUN0 1 [] [(3, .v (.slice oa out.length oc)), (5, I y2), (6, .v (.slice list_a list.length list_c)), (7, I (list.length : Int)), (8, I (k : Int))] ?_ rfl ?_
    · as_aux_lemma => kernel_rfl
    refine ENDOPS (NEXT (REGION [0, 1, 2, 3, 4] rfl (RUN0 2 [2, 3, 4] [(6, .v (.slice list_a list.length list_c)), (7, I (list.length : Int)), (8, I (k : Int)), (12, .v (.slice oa out.length oc)), (13, I y2)] ?_ rfl ?_)))
    · as_aux_lemma => kernel_rfl
    refine OPC (CALL 26 #[vi y2] (some 14) ?_ [] [] _ rfl (⟨HH, fun p => .slice p.1 ((putNum y2).length) p.2, fun p => [slA 5 byteL (.slice p.1 (putNum y2).length p.2) (putNum y2)]⟩) (fun w hw => iPutNum_c w y2) (by rintro _ ⟨⟩; exact Nat.le_of_ble_eq_true rfl) ?_)
    · as_aux_lemma => kernel_rfl
    rintro ⟨a4, c5⟩
    have hr6 := putNum_len y2
    refine OPC (APPENDR 22 (.tmp 12) (.tmp 14) 15 22 ?_ (Nat.le_of_ble_eq_true rfl) (.slice oa out.length oc) a4 ((putNum y2).length) c5 ?_ ?_ 5 ?_ (.int .u8 0) 1 ?_ rfl (by decide) 0 out (putNum y2) _ rfl rfl (fun w hw => (hw.rdO 1 rfl)) (by have := putNum_len y2; omega) (by have := putNum_len y2; simp only [maxLen]; omega) (fun a7 c8 hn9 => ?_))
    · as_aux_lemma => kernel_rfl
    · as_aux_lemma => kernel_rfl
    · as_aux_lemma => kernel_rfl
    · as_aux_lemma => kernel_rfl
    · as_aux_lemma => kernel_rfl
    refine RUN0 1 [] [(3, .v (.slice a7 ((out ++ (putNum y2)).length) c8)), (6, .v (.slice list_a list.length list_c)), (7, I (list.length : Int)), (8, I (k : Int))] ?_ rfl ?_
    · as_aux_lemma => kernel_rfl
    refine ENDOPS (OUTN (NEXT (REGION [0, 1] rfl (RUN0 1 [1] [(3, .v (.slice a7 ((out ++ (putNum y2)).length) c8)), (6, .v (.slice list_a list.length list_c)), (7, I (list.length : Int)), (16, I (wr ((k : Int) + 1)))] ?_ rfl ?_))))
    · as_aux_lemma => kernel_rfl
    refine CAST (d := 16) (vi (wr ((k : Int) + 1))) (vi ((k + 1 : Nat) : Int)) ?_ (vi_cast (by omega) (by omega)) ?_
    · as_aux_lemma => kernel_rfl
    refine RUN0 1 [] [(3, .v (.slice a7 ((out ++ (putNum y2)).length) c8)), (6, .v (.slice list_a list.length list_c)), (7, I (list.length : Int)), (8, I ((k + 1 : Nat) : Int))] ?_ rfl ?_
    · as_aux_lemma => kernel_rfl
    refine ENDOPS (BACK (k + 1, ys3, a7, c8, out ++ (putNum y2)) [3, 6, 7, 8] 0 [1] _ ⟨hl_y2, hd_y2, hv0.trans (by simp [putNums]), by have := putNum_len y2; simp only [List.length_append]; omega⟩ (by simp) ?_ rfl rfl rfl)
    · as_aux_lemma => kernel_rfl
  · -- decide ((k : Int) < (list.length : Int)) = false
    have h1 := bh1
    have h1 := of_decide_eq_false h1
    obtain rfl := drop_nil hk (by omega)
    refine EXIT (PASS trivial (PASS trivial (OUT (NEXT (SEQ (REGION [0, 1, 2] rfl (RUN0 1 [1, 2] [(17, .v (.slice oa out.length oc))] ?_ rfl ?_)))))))
    · as_aux_lemma => kernel_rfl
    refine OPC (RUNV (.convert 22 9 (.tmp 17)) 18 9 ?_ (Nat.le_of_ble_eq_true rfl) (.string (bs out)) (runs_bstr (a := oa) (n := out.length) (c := oc) (xs := out) (e := 5) ?_ ?_ ?_ ?_ rfl (fun w hw => (hw.rdO 0 rfl))) ?_)
    · as_aux_lemma => kernel_rfl
    · as_aux_lemma => kernel_rfl
    · as_aux_lemma => kernel_rfl
    · as_aux_lemma => kernel_rfl
    · as_aux_lemma => kernel_rfl
    refine RUN0 1 [] [(2, .v (.string (bs out)))] ?_ rfl ?_
    · as_aux_lemma => kernel_rfl
    refine ENDOPS (NEXT (RET (FIN (.string (bs out)) ?_ () ?_ [] ?_)))
    · as_aux_lemma => kernel_rfl
    · (simp only [RV, hv0]; simp [putNums])
    · rfl

theorem sFrameOf_c (W : World) (seq : Int) (body : List UInt8) (hbd : body.length ≤ 1048576) : Spec Try.prog W [] 25 #[vi seq, .string (bs body)] (RV (.string (bs (frameOf seq body)))) := by
  refine ENTER0 (N := 33) (vs := [vi seq, .string (bs body)]) Try.func25 rfl rfl (Nat.le_of_ble_eq_true rfl) ?_
  refine SEQ (REGION [0] rfl (RUN0 1 [] [(0, I seq), (1, .v (.string (bs body)))] ?_ rfl ?_))
  · as_aux_lemma => kernel_rfl
  refine ENDOPS (NEXT (SEQ (SEQ (REGION [0, 1, 2, 3, 4, 5, 6, 7, 8] rfl (RUN0 1 [1, 2, 3, 4, 5, 6, 7, 8] [(0, I seq), (1, .v (.string (bs body))), (7, I seq)] ?_ rfl ?_)))))
  · as_aux_lemma => kernel_rfl
  refine OPC (CALL 44 #[vi seq, vi 1, vi 1000000] (some 8) ?_ [] [] _ rfl (RV (.bool (inB seq 1 1000000))) (fun w hw => l1In_c w seq 1 1000000) (by rintro _ ⟨⟩; exact Nat.le_of_ble_eq_true rfl) ?_)
  · as_aux_lemma => kernel_rfl
  rintro ⟨⟩
  refine RUN0 2 [4, 5, 6, 7, 8] [(0, I seq), (1, .v (.string (bs body))), (10, B (!(inB seq 1 1000000)))] ?_ rfl ?_
  · as_aux_lemma => kernel_rfl
  refine SPLIT (d := 10) (!(inB seq 1 1000000)) ?_ (fun bh1 => ?_) (fun bh1 => ?_)
  · as_aux_lemma => kernel_rfl
  · -- !(inB seq 1 1000000) = true
    have h1 := bh1
    have h1 := notT h1
    refine RUN0 5 [] [(0, I seq), (1, .v (.string (bs body))), (15, B true)] ?_ rfl ?_
    · as_aux_lemma => kernel_rfl
    refine ENDOPS (NEXT (IFT ?_ ?_))
    · as_aux_lemma => kernel_rfl
    refine SEQ (REGION [0] rfl (RUN0 1 [] [(4, .v (.string (bs ([]))))] ?_ rfl ?_))
    · as_aux_lemma => kernel_rfl
    refine ENDOPS (NEXT (RET (PASS trivial (FIN (.string (bs ([]))) ?_ () ?_ [] ?_))))
    · as_aux_lemma => kernel_rfl
    · simp_all [RV, frameOf, four_nat]
    · rfl
  · -- !(inB seq 1 1000000) = false
    have h1 := bh1
    have h1 := notF h1
    refine RUN0 2 [6, 7, 8] [(0, I seq), (1, .v (.string (bs body))), (10, B false), (12, I (body.length : Int))] ?_ rfl ?_
    · as_aux_lemma => kernel_rfl
    refine OPC (CALL 44 #[vi (body.length : Int), vi 1, vi 60] (some 13) ?_ [] [] _ rfl (RV (.bool (inB (body.length : Int) 1 60))) (fun w hw => l1In_c w (body.length : Int) 1 60) (by rintro _ ⟨⟩; exact Nat.le_of_ble_eq_true rfl) ?_)
    · as_aux_lemma => kernel_rfl
    rintro ⟨⟩
    refine RUN0 2 [] [(0, I seq), (1, .v (.string (bs body))), (15, B (!(inB (body.length : Int) 1 60)))] ?_ rfl ?_
    · as_aux_lemma => kernel_rfl
    refine ENDOPS (NEXT (IF (!(inB (body.length : Int) 1 60)) ?_ (fun bh2 => ?_) (fun bh2 => ?_)))
    · as_aux_lemma => kernel_rfl
    · -- !(inB (body.length : Int) 1 60) = true
      have h2 := bh2
      have h2 := notT h2
      refine SEQ (REGION [0] rfl (RUN0 1 [] [(4, .v (.string (bs ([]))))] ?_ rfl ?_))
      · as_aux_lemma => kernel_rfl
      refine ENDOPS (NEXT (RET (PASS trivial (FIN (.string (bs ([]))) ?_ () ?_ [] ?_))))
      · as_aux_lemma => kernel_rfl
      · simp_all [RV, frameOf, four_nat]
      · rfl
    · -- !(inB (body.length : Int) 1 60) = false
      have h2 := bh2
      have h2 := notF h2
      have hbl := inB_len h2
      refine SKIP (NEXT (SEQ (REGION [0, 1, 2, 3, 4, 5] rfl (RUN0 1 [1, 2, 3, 4, 5] [(1, .v (.string (bs body))), (16, I seq)] ?_ rfl ?_))))
      · as_aux_lemma => kernel_rfl
      refine OPC (CALL 45 #[vi seq] (some 17) ?_ [] [] _ rfl (⟨HH, fun p => .slice p.1 ((putNum seq).length) p.2, fun p => [slA 5 byteL (.slice p.1 (putNum seq).length p.2) (putNum seq)]⟩) (fun w hw => sPutNum_c w seq) (by rintro _ ⟨⟩; exact Nat.le_of_ble_eq_true rfl) ?_)
      · as_aux_lemma => kernel_rfl
      rintro ⟨a3, c4⟩
      have hr5 := putNum_len seq
      refine OPC (RUNV (.convert 22 9 (.tmp 17)) 18 9 ?_ (Nat.le_of_ble_eq_true rfl) (.string (bs (putNum seq))) (runs_bstr (a := a3) (n := (putNum seq).length) (c := c4) (xs := putNum seq) (e := 5) ?_ ?_ ?_ ?_ rfl (fun w hw => (hw.rdO 0 rfl))) ?_)
      · as_aux_lemma => kernel_rfl
      · as_aux_lemma => kernel_rfl
      · as_aux_lemma => kernel_rfl
      · as_aux_lemma => kernel_rfl
      · as_aux_lemma => kernel_rfl
      refine RUN0 1 [4, 5] [(18, .v (.string (bs (putNum seq)))), (19, .v (.string (bs body)))] ?_ rfl ?_
      · as_aux_lemma => kernel_rfl
      refine OPC (RUNV (.binOp .add 9 (.tmp 18) (.tmp 19) 9) 20 9 ?_ (Nat.le_of_ble_eq_true rfl) (.string (bs ((putNum seq) ++ body))) (runs_scat (a := putNum seq) (b := body) ?_ ?_ (by first | omega | (simp only [List.length_append, List.length_cons, List.length_nil, List.length_take, List.length_drop] at *; omega))) ?_)
      · as_aux_lemma => kernel_rfl
      · as_aux_lemma => kernel_rfl
      · as_aux_lemma => kernel_rfl
      refine RUN0 1 [] [(5, .v (.string (bs ((putNum seq) ++ body))))] ?_ rfl ?_
      · as_aux_lemma => kernel_rfl
      refine ENDOPS (NEXT (SEQ (REGION [0, 1, 2, 3, 4, 5, 6] rfl (RUN0 1 [1, 2, 3, 4, 5, 6] [(5, .v (.string (bs ((putNum seq) ++ body)))), (21, .v (.string (bs ((putNum seq) ++ body))))] ?_ rfl ?_))))
      · as_aux_lemma => kernel_rfl
      refine OPC (CONVB 9 22 (.tmp 21) 22 22 ?_ (Nat.le_of_ble_eq_true rfl) ((putNum seq) ++ body) ?_ 5 ?_ ?_ ?_ (by first | omega | (simp only [List.length_append, List.length_cons, List.length_nil, List.length_take, List.length_drop] at *; omega)) (fun a6 c7 ha8 => ?_))
      · as_aux_lemma => kernel_rfl
      · as_aux_lemma => kernel_rfl
      · as_aux_lemma => kernel_rfl
      · as_aux_lemma => kernel_rfl
      · as_aux_lemma => kernel_rfl
      refine OPC (CALL 47 #[.slice a6 (((putNum seq) ++ body).length) c7] (some 23) ?_ [] [] _ rfl (RV (vi ((crc ((putNum seq) ++ body) : Nat) : Int))) (fun w hw => sCrc_c w ((putNum seq) ++ body) a6 c7 (hw.rdO 1 rfl)) (by rintro _ ⟨⟩; exact Nat.le_of_ble_eq_true rfl) ?_)
      · as_aux_lemma => kernel_rfl
      rintro ⟨⟩
      refine OPC (CALL 46 #[vi ((crc ((putNum seq) ++ body) : Nat) : Int)] (some 24) ?_ [] [] _ rfl (RV (.string (bs (four ((crc ((putNum seq) ++ body) : Nat) : Int))))) (fun w hw => four_c w ((crc ((putNum seq) ++ body) : Nat) : Int)) (by rintro _ ⟨⟩; exact Nat.le_of_ble_eq_true rfl) ?_)
      · as_aux_lemma => kernel_rfl
      rintro ⟨⟩
      have hr9 := four_len ((crc ((putNum seq) ++ body) : Nat) : Int)
      refine RUN0 1 [5, 6] [(24, .v (.string (bs (four ((crc ((putNum seq) ++ body) : Nat) : Int))))), (25, .v (.string (bs ((putNum seq) ++ body))))] ?_ rfl ?_
      · as_aux_lemma => kernel_rfl
      refine OPC (RUNV (.binOp .add 9 (.tmp 24) (.tmp 25) 9) 26 9 ?_ (Nat.le_of_ble_eq_true rfl) (.string (bs ((four ((crc ((putNum seq) ++ body) : Nat) : Int)) ++ ((putNum seq) ++ body)))) (runs_scat (a := four ((crc ((putNum seq) ++ body) : Nat) : Int)) (b := (putNum seq) ++ body) ?_ ?_ (by first | omega | (simp only [List.length_append, List.length_cons, List.length_nil, List.length_take, List.length_drop] at *; omega))) ?_)
      · as_aux_lemma => kernel_rfl
      · as_aux_lemma => kernel_rfl
      · as_aux_lemma => kernel_rfl
      refine RUN0 1 [] [(6, .v (.string (bs ((four ((crc ((putNum seq) ++ body) : Nat) : Int)) ++ ((putNum seq) ++ body)))))] ?_ rfl ?_
      · as_aux_lemma => kernel_rfl
      refine ENDOPS (NEXT (SEQ (REGION [0, 1, 2, 3, 4, 5, 6] rfl (RUN0 2 [2, 3, 4, 5, 6] [(6, .v (.string (bs ((four ((crc ((putNum seq) ++ body) : Nat) : Int)) ++ ((putNum seq) ++ body))))), (28, I ((((four ((crc ((putNum seq) ++ body) : Nat) : Int)) ++ ((putNum seq) ++ body)).length : Nat) : Int))] ?_ rfl ?_))))
      · as_aux_lemma => kernel_rfl
      refine OPC (CALL 45 #[vi ((((four ((crc ((putNum seq) ++ body) : Nat) : Int)) ++ ((putNum seq) ++ body)).length : Nat) : Int)] (some 29) ?_ [] [] _ rfl (⟨HH, fun p => .slice p.1 ((putNum ((((four ((crc ((putNum seq) ++ body) : Nat) : Int)) ++ ((putNum seq) ++ body)).length : Nat) : Int)).length) p.2, fun p => [slA 5 byteL (.slice p.1 (putNum ((((four ((crc ((putNum seq) ++ body) : Nat) : Int)) ++ ((putNum seq) ++ body)).length : Nat) : Int)).length p.2) (putNum ((((four ((crc ((putNum seq) ++ body) : Nat) : Int)) ++ ((putNum seq) ++ body)).length : Nat) : Int))]⟩) (fun w hw => sPutNum_c w ((((four ((crc ((putNum seq) ++ body) : Nat) : Int)) ++ ((putNum seq) ++ body)).length : Nat) : Int)) (by rintro _ ⟨⟩; exact Nat.le_of_ble_eq_true rfl) ?_)
      · as_aux_lemma => kernel_rfl
      rintro ⟨a10, c11⟩
      have hr12 := putNum_len ((((four ((crc ((putNum seq) ++ body) : Nat) : Int)) ++ ((putNum seq) ++ body)).length : Nat) : Int)
      refine OPC (RUNV (.convert 22 9 (.tmp 29)) 30 9 ?_ (Nat.le_of_ble_eq_true rfl) (.string (bs (putNum ((((four ((crc ((putNum seq) ++ body) : Nat) : Int)) ++ ((putNum seq) ++ body)).length : Nat) : Int)))) (runs_bstr (a := a10) (n := (putNum ((((four ((crc ((putNum seq) ++ body) : Nat) : Int)) ++ ((putNum seq) ++ body)).length : Nat) : Int)).length) (c := c11) (xs := putNum ((((four ((crc ((putNum seq) ++ body) : Nat) : Int)) ++ ((putNum seq) ++ body)).length : Nat) : Int)) (e := 5) ?_ ?_ ?_ ?_ rfl (fun w hw => (hw.rdO 2 rfl))) ?_)
      · as_aux_lemma => kernel_rfl
      · as_aux_lemma => kernel_rfl
      · as_aux_lemma => kernel_rfl
      · as_aux_lemma => kernel_rfl
      · as_aux_lemma => kernel_rfl
      refine RUN0 1 [5, 6] [(30, .v (.string (bs (putNum ((((four ((crc ((putNum seq) ++ body) : Nat) : Int)) ++ ((putNum seq) ++ body)).length : Nat) : Int))))), (31, .v (.string (bs ((four ((crc ((putNum seq) ++ body) : Nat) : Int)) ++ ((putNum seq) ++ body)))))] ?_ rfl ?_
      · as_aux_lemma => kernel_rfl
      refine OPC (RUNV (.binOp .add 9 (.tmp 30) (.tmp 31) 9) 32 9 ?_ (Nat.le_of_ble_eq_true rfl) (.string (bs ((putNum ((((four ((crc ((putNum seq) ++ body) : Nat) : Int)) ++ ((putNum seq) ++ body)).length : Nat) : Int)) ++ ((four ((crc ((putNum seq) ++ body) : Nat) : Int)) ++ ((putNum seq) ++ body))))) (runs_scat (a := putNum ((((four ((crc ((putNum seq) ++ body) : Nat) : Int)) ++ ((putNum seq) ++ body)).length : Nat) : Int)) (b := (four ((crc ((putNum seq) ++ body) : Nat) : Int)) ++ ((putNum seq) ++ body)) ?_ ?_ (by first | omega | (simp only [List.length_append, List.length_cons, List.length_nil, List.length_take, List.length_drop] at *; omega))) ?_)
      · as_aux_lemma => kernel_rfl
      · as_aux_lemma => kernel_rfl
      · as_aux_lemma => kernel_rfl
      refine RUN0 1 [] [(4, .v (.string (bs ((putNum ((((four ((crc ((putNum seq) ++ body) : Nat) : Int)) ++ ((putNum seq) ++ body)).length : Nat) : Int)) ++ ((four ((crc ((putNum seq) ++ body) : Nat) : Int)) ++ ((putNum seq) ++ body))))))] ?_ rfl ?_
      · as_aux_lemma => kernel_rfl
      refine ENDOPS (NEXT (RET (FIN (.string (bs ((putNum ((((four ((crc ((putNum seq) ++ body) : Nat) : Int)) ++ ((putNum seq) ++ body)).length : Nat) : Int)) ++ ((four ((crc ((putNum seq) ++ body) : Nat) : Int)) ++ ((putNum seq) ++ body))))) ?_ () ?_ [] ?_)))
      · as_aux_lemma => kernel_rfl
      · simp_all [RV, frameOf, four_nat]
      · rfl

theorem iFrameOf_c (W : World) (seq : Int) (body : List UInt8) (hbd : body.length ≤ 1048576) : Spec Try.prog W [] 16 #[vi seq, .string (bs body)] (RV (.string (bs (frameOf seq body)))) := by
  refine ENTER0 (N := 44) (vs := [vi seq, .string (bs body)]) Try.func16 rfl rfl (Nat.le_of_ble_eq_true rfl) ?_
  refine SEQ (REGION [0] rfl (RUN0 1 [] [(0, I seq), (1, .v (.string (bs body)))] ?_ rfl ?_))
  · as_aux_lemma => kernel_rfl
  refine ENDOPS (NEXT (SEQ (SEQ (REGION [0, 1, 2, 3, 4, 5, 6, 7, 8] rfl (RUN0 1 [1, 2, 3, 4, 5, 6, 7, 8] [(0, I seq), (1, .v (.string (bs body))), (8, I seq)] ?_ rfl ?_)))))
  · as_aux_lemma => kernel_rfl
  refine OPC (CALL 15 #[vi seq, vi 1, vi 1000000] (some 9) ?_ [] [] _ rfl (RV (.bool (inB seq 1 1000000))) (fun w hw => within_c w seq 1 1000000) (by rintro _ ⟨⟩; exact Nat.le_of_ble_eq_true rfl) ?_)
  · as_aux_lemma => kernel_rfl
  rintro ⟨⟩
  refine RUN0 2 [4, 5, 6, 7, 8] [(0, I seq), (1, .v (.string (bs body))), (11, B (!(inB seq 1 1000000)))] ?_ rfl ?_
  · as_aux_lemma => kernel_rfl
  refine SPLIT (d := 11) (!(inB seq 1 1000000)) ?_ (fun bh1 => ?_) (fun bh1 => ?_)
  · as_aux_lemma => kernel_rfl
  · -- !(inB seq 1 1000000) = true
    have h1 := bh1
    have h1 := notT h1
    refine RUN0 5 [] [(0, I seq), (1, .v (.string (bs body))), (16, B true)] ?_ rfl ?_
    · as_aux_lemma => kernel_rfl
    refine ENDOPS (NEXT (IFT ?_ ?_))
    · as_aux_lemma => kernel_rfl
    refine SEQ (REGION [0] rfl (RUN0 1 [] [(4, .v (.string (bs ([]))))] ?_ rfl ?_))
    · as_aux_lemma => kernel_rfl
    refine ENDOPS (NEXT (RET (PASS trivial (FIN (.string (bs ([]))) ?_ () ?_ [] ?_))))
    · as_aux_lemma => kernel_rfl
    · simp_all [RV, frameOf, four_nat]
    · rfl
  · -- !(inB seq 1 1000000) = false
    have h1 := bh1
    have h1 := notF h1
    refine RUN0 2 [6, 7, 8] [(0, I seq), (1, .v (.string (bs body))), (11, B false), (13, I (body.length : Int))] ?_ rfl ?_
    · as_aux_lemma => kernel_rfl
    refine OPC (CALL 15 #[vi (body.length : Int), vi 1, vi 60] (some 14) ?_ [] [] _ rfl (RV (.bool (inB (body.length : Int) 1 60))) (fun w hw => within_c w (body.length : Int) 1 60) (by rintro _ ⟨⟩; exact Nat.le_of_ble_eq_true rfl) ?_)
    · as_aux_lemma => kernel_rfl
    rintro ⟨⟩
    refine RUN0 2 [] [(0, I seq), (1, .v (.string (bs body))), (16, B (!(inB (body.length : Int) 1 60)))] ?_ rfl ?_
    · as_aux_lemma => kernel_rfl
    refine ENDOPS (NEXT (IF (!(inB (body.length : Int) 1 60)) ?_ (fun bh2 => ?_) (fun bh2 => ?_)))
    · as_aux_lemma => kernel_rfl
    · -- !(inB (body.length : Int) 1 60) = true
      have h2 := bh2
      have h2 := notT h2
      refine SEQ (REGION [0] rfl (RUN0 1 [] [(4, .v (.string (bs ([]))))] ?_ rfl ?_))
      · as_aux_lemma => kernel_rfl
      refine ENDOPS (NEXT (RET (PASS trivial (FIN (.string (bs ([]))) ?_ () ?_ [] ?_))))
      · as_aux_lemma => kernel_rfl
      · simp_all [RV, frameOf, four_nat]
      · rfl
    · -- !(inB (body.length : Int) 1 60) = false
      have h2 := bh2
      have h2 := notF h2
      have hbl := inB_len h2
      refine SKIP (NEXT (SEQ (REGION [0, 1, 2, 3, 4] rfl (RUN0 1 [1, 2, 3, 4] [(1, .v (.string (bs body))), (17, I seq)] ?_ rfl ?_))))
      · as_aux_lemma => kernel_rfl
      refine OPC (CALL 26 #[vi seq] (some 18) ?_ [] [] _ rfl (⟨HH, fun p => .slice p.1 ((putNum seq).length) p.2, fun p => [slA 5 byteL (.slice p.1 (putNum seq).length p.2) (putNum seq)]⟩) (fun w hw => iPutNum_c w seq) (by rintro _ ⟨⟩; exact Nat.le_of_ble_eq_true rfl) ?_)
      · as_aux_lemma => kernel_rfl
      rintro ⟨a3, c4⟩
      have hr5 := putNum_len seq
      refine RUN0 1 [3, 4] [(18, .v (.slice a3 ((putNum seq).length) c4)), (19, .v (.string (bs body)))] ?_ rfl ?_
      · as_aux_lemma => kernel_rfl
      refine OPC (APPENDS 22 9 (.tmp 18) (.tmp 19) 20 22 ?_ (Nat.le_of_ble_eq_true rfl) (.slice a3 ((putNum seq).length) c4) body ?_ ?_ 5 ?_ ?_ ?_ 0 (putNum seq) _ rfl (by first | omega | (simp only [List.length_append, List.length_cons, List.length_nil, List.length_take, List.length_drop] at *; omega)) (fun a6 c7 hn8 => ?_))
      · as_aux_lemma => kernel_rfl
      · as_aux_lemma => kernel_rfl
      · as_aux_lemma => kernel_rfl
      · as_aux_lemma => kernel_rfl
      · as_aux_lemma => kernel_rfl
      · as_aux_lemma => kernel_rfl
      refine RUN0 1 [] [(5, .v (.slice a6 (((putNum seq) ++ body).length) c7))] ?_ rfl ?_
      · as_aux_lemma => kernel_rfl
      refine ENDOPS (NEXT (SEQ (REGION [0, 1, 2] rfl (RUN0 1 [1, 2] [(5, .v (.slice a6 (((putNum seq) ++ body).length) c7)), (21, .v (.slice a6 (((putNum seq) ++ body).length) c7))] ?_ rfl ?_))))
      · as_aux_lemma => kernel_rfl
      refine OPC (CALL 27 #[.slice a6 (((putNum seq) ++ body).length) c7] (some 22) ?_ [] [] _ rfl (RV (vi ((crc ((putNum seq) ++ body) : Nat) : Int))) (fun w hw => iCrc_c w ((putNum seq) ++ body) a6 c7 (hw.rdO 0 rfl)) (by rintro _ ⟨⟩; exact Nat.le_of_ble_eq_true rfl) ?_)
      · as_aux_lemma => kernel_rfl
      rintro ⟨⟩
      refine RUN0 1 [] [(5, .v (.slice a6 (((putNum seq) ++ body).length) c7)), (6, I ((crc ((putNum seq) ++ body) : Nat) : Int))] ?_ rfl ?_
      · as_aux_lemma => kernel_rfl
      refine ENDOPS (NEXT (SEQ (REGION [0, 1, 2, 3, 4, 5, 6, 7, 8, 9, 10, 11, 12, 13, 14] rfl (RUN0 2 [2, 3, 4, 5, 6, 7, 8, 9, 10, 11, 12, 13, 14] [(5, .v (.slice a6 (((putNum seq) ++ body).length) c7)), (6, I ((crc ((putNum seq) ++ body) : Nat) : Int)), (24, I (Int.fdiv ((crc ((putNum seq) ++ body) : Nat) : Int) (2 ^ 24)))] ?_ rfl ?_))))
      · as_aux_lemma => kernel_rfl
      refine CAST (d := 24) (vi (Int.fdiv ((crc ((putNum seq) ++ body) : Nat) : Int) (2 ^ 24))) (vi (((crc ((putNum seq) ++ body)) / 2 ^ 24 : Nat) : Int)) ?_ (vi_shr (crc ((putNum seq) ++ body)) 24) ?_
      · as_aux_lemma => kernel_rfl
      refine RUN0 1 [3, 4, 5, 6, 7, 8, 9, 10, 11, 12, 13, 14] [(5, .v (.slice a6 (((putNum seq) ++ body).length) c7)), (6, I ((crc ((putNum seq) ++ body) : Nat) : Int)), (25, .v (.int .u8 (IntKind.wrap .u8 (((crc ((putNum seq) ++ body)) / 2 ^ 24 : Nat) : Int))))] ?_ rfl ?_
      · as_aux_lemma => kernel_rfl
      refine CAST (d := 25) (.int .u8 (IntKind.wrap .u8 (((crc ((putNum seq) ++ body)) / 2 ^ 24 : Nat) : Int))) (.int .u8 (((byteOf (((crc ((putNum seq) ++ body)) / 2 ^ 24 : Nat) : Int)).toNat : Nat) : Int)) ?_ (v8 (((crc ((putNum seq) ++ body)) / 2 ^ 24 : Nat) : Int)) ?_
      · as_aux_lemma => kernel_rfl
      refine RUN0 2 [5, 6, 7, 8, 9, 10, 11, 12, 13, 14] [(5, .v (.slice a6 (((putNum seq) ++ body).length) c7)), (6, I ((crc ((putNum seq) ++ body) : Nat) : Int)), (25, .v (.int .u8 (((byteOf (((crc ((putNum seq) ++ body)) / 2 ^ 24 : Nat) : Int)).toNat : Nat) : Int))), (27, I (Int.fdiv ((crc ((putNum seq) ++ body) : Nat) : Int) (2 ^ 16)))] ?_ rfl ?_
      · as_aux_lemma => kernel_rfl
      refine CAST (d := 27) (vi (Int.fdiv ((crc ((putNum seq) ++ body) : Nat) : Int) (2 ^ 16))) (vi (((crc ((putNum seq) ++ body)) / 2 ^ 16 : Nat) : Int)) ?_ (vi_shr (crc ((putNum seq) ++ body)) 16) ?_
      · as_aux_lemma => kernel_rfl
      refine RUN0 1 [6, 7, 8, 9, 10, 11, 12, 13, 14] [(5, .v (.slice a6 (((putNum seq) ++ body).length) c7)), (6, I ((crc ((putNum seq) ++ body) : Nat) : Int)), (25, .v (.int .u8 (((byteOf (((crc ((putNum seq) ++ body)) / 2 ^ 24 : Nat) : Int)).toNat : Nat) : Int))), (28, .v (.int .u8 (IntKind.wrap .u8 (((crc ((putNum seq) ++ body)) / 2 ^ 16 : Nat) : Int))))] ?_ rfl ?_
      · as_aux_lemma => kernel_rfl
      refine CAST (d := 28) (.int .u8 (IntKind.wrap .u8 (((crc ((putNum seq) ++ body)) / 2 ^ 16 : Nat) : Int))) (.int .u8 (((byteOf (((crc ((putNum seq) ++ body)) / 2 ^ 16 : Nat) : Int)).toNat : Nat) : Int)) ?_ (v8 (((crc ((putNum seq) ++ body)) / 2 ^ 16 : Nat) : Int)) ?_
      · as_aux_lemma => kernel_rfl
      refine RUN0 2 [8, 9, 10, 11, 12, 13, 14] [(5, .v (.slice a6 (((putNum seq) ++ body).length) c7)), (6, I ((crc ((putNum seq) ++ body) : Nat) : Int)), (25, .v (.int .u8 (((byteOf (((crc ((putNum seq) ++ body)) / 2 ^ 24 : Nat) : Int)).toNat : Nat) : Int))), (28, .v (.int .u8 (((byteOf (((crc ((putNum seq) ++ body)) / 2 ^ 16 : Nat) : Int)).toNat : Nat) : Int))), (30, I (Int.fdiv ((crc ((putNum seq) ++ body) : Nat) : Int) (2 ^ 8)))] ?_ rfl ?_
      · as_aux_lemma => kernel_rfl
      refine CAST (d := 30) (vi (Int.fdiv ((crc ((putNum seq) ++ body) : Nat) : Int) (2 ^ 8))) (vi (((crc ((putNum seq) ++ body)) / 2 ^ 8 : Nat) : Int)) ?_ (vi_shr (crc ((putNum seq) ++ body)) 8) ?_
      · as_aux_lemma => kernel_rfl
      refine RUN0 1 [9, 10, 11, 12, 13, 14] [(5, .v (.slice a6 (((putNum seq) ++ body).length) c7)), (6, I ((crc ((putNum seq) ++ body) : Nat) : Int)), (25, .v (.int .u8 (((byteOf (((crc ((putNum seq) ++ body)) / 2 ^ 24 : Nat) : Int)).toNat : Nat) : Int))), (28, .v (.int .u8 (((byteOf (((crc ((putNum seq) ++ body)) / 2 ^ 16 : Nat) : Int)).toNat : Nat) : Int))), (31, .v (.int .u8 (IntKind.wrap .u8 (((crc ((putNum seq) ++ body)) / 2 ^ 8 : Nat) : Int))))] ?_ rfl ?_
      · as_aux_lemma => kernel_rfl
      refine CAST (d := 31) (.int .u8 (IntKind.wrap .u8 (((crc ((putNum seq) ++ body)) / 2 ^ 8 : Nat) : Int))) (.int .u8 (((byteOf (((crc ((putNum seq) ++ body)) / 2 ^ 8 : Nat) : Int)).toNat : Nat) : Int)) ?_ (v8 (((crc ((putNum seq) ++ body)) / 2 ^ 8 : Nat) : Int)) ?_
      · as_aux_lemma => kernel_rfl
      refine RUN0 2 [11, 12, 13, 14] [(5, .v (.slice a6 (((putNum seq) ++ body).length) c7)), (25, .v (.int .u8 (((byteOf (((crc ((putNum seq) ++ body)) / 2 ^ 24 : Nat) : Int)).toNat : Nat) : Int))), (28, .v (.int .u8 (((byteOf (((crc ((putNum seq) ++ body)) / 2 ^ 16 : Nat) : Int)).toNat : Nat) : Int))), (31, .v (.int .u8 (((byteOf (((crc ((putNum seq) ++ body)) / 2 ^ 8 : Nat) : Int)).toNat : Nat) : Int))), (33, .v (.int .u8 (IntKind.wrap .u8 ((crc ((putNum seq) ++ body) : Nat) : Int))))] ?_ rfl ?_
      · as_aux_lemma => kernel_rfl
      refine CAST (d := 33) (.int .u8 (IntKind.wrap .u8 ((crc ((putNum seq) ++ body) : Nat) : Int))) (.int .u8 (((byteOf ((crc ((putNum seq) ++ body) : Nat) : Int)).toNat : Nat) : Int)) ?_ (v8 ((crc ((putNum seq) ++ body) : Nat) : Int)) ?_
      · as_aux_lemma => kernel_rfl
      refine OPC (BUILDS 22 4 #[(0, .tmp 25), (1, .tmp 28), (2, .tmp 31), (3, .tmp 33)] 34 22 ?_ (Nat.le_of_ble_eq_true rfl) 5 [.int .u8 (((byteOf (((crc ((putNum seq) ++ body)) / 2 ^ 24 : Nat) : Int)).toNat : Nat) : Int), .int .u8 (((byteOf (((crc ((putNum seq) ++ body)) / 2 ^ 16 : Nat) : Int)).toNat : Nat) : Int), .int .u8 (((byteOf (((crc ((putNum seq) ++ body)) / 2 ^ 8 : Nat) : Int)).toNat : Nat) : Int), .int .u8 (((byteOf ((crc ((putNum seq) ++ body) : Nat) : Int)).toNat : Nat) : Int)] ?_ byteL ([byteOf (((crc ((putNum seq) ++ body)) / 2 ^ 24 : Nat) : Int), byteOf (((crc ((putNum seq) ++ body)) / 2 ^ 16 : Nat) : Int), byteOf (((crc ((putNum seq) ++ body)) / 2 ^ 8 : Nat) : Int), byteOf ((crc ((putNum seq) ++ body) : Nat) : Int)] : List UInt8) rfl (by simp only [maxLen]; omega) [] [] _ rfl (flatRep rfl) (fun a9 ha10 => ?_))
      · as_aux_lemma => kernel_rfl
      · as_aux_lemma => kernel_rfl
      refine RUN0 1 [13, 14] [(34, .v (.slice a9 4 4)), (35, .v (.slice a6 (((putNum seq) ++ body).length) c7))] ?_ rfl ?_
      · as_aux_lemma => kernel_rfl
      refine OPC (APPENDR 22 (.tmp 34) (.tmp 35) 36 22 ?_ (Nat.le_of_ble_eq_true rfl) (.slice a9 4 4) a6 (((putNum seq) ++ body).length) c7 ?_ ?_ 5 ?_ (.int .u8 0) 1 ?_ rfl (by decide) 1 ([byteOf (((crc ((putNum seq) ++ body)) / 2 ^ 24 : Nat) : Int), byteOf (((crc ((putNum seq) ++ body)) / 2 ^ 16 : Nat) : Int), byteOf (((crc ((putNum seq) ++ body)) / 2 ^ 8 : Nat) : Int), byteOf ((crc ((putNum seq) ++ body) : Nat) : Int)] : List UInt8) ((putNum seq) ++ body) _ rfl rfl (fun w hw => (hw.rdO 0 rfl)) (by first | omega | (simp only [List.length_append, List.length_cons, List.length_nil, List.length_take, List.length_drop] at *; omega)) (by simp only [maxLen]; first | omega | (simp only [List.length_append, List.length_cons, List.length_nil, List.length_take, List.length_drop] at *; omega)) (fun a11 c12 hn13 => ?_))
      · as_aux_lemma => kernel_rfl
      · as_aux_lemma => kernel_rfl
      · as_aux_lemma => kernel_rfl
      · as_aux_lemma => kernel_rfl
      · as_aux_lemma => kernel_rfl
      refine RUN0 1 [] [(7, .v (.slice a11 ((([byteOf (((crc ((putNum seq) ++ body)) / 2 ^ 24 : Nat) : Int), byteOf (((crc ((putNum seq) ++ body)) / 2 ^ 16 : Nat) : Int), byteOf (((crc ((putNum seq) ++ body)) / 2 ^ 8 : Nat) : Int), byteOf ((crc ((putNum seq) ++ body) : Nat) : Int)] : List UInt8) ++ ((putNum seq) ++ body)).length) c12))] ?_ rfl ?_
      · as_aux_lemma => kernel_rfl
      refine ENDOPS (NEXT (SEQ (REGIONH ?_ 8 rfl [slA 5 byteL (.slice a6 ((putNum seq) ++ body).length c7) ((putNum seq) ++ body), slA 5 byteL (.slice a11 (([byteOf (((crc ((putNum seq) ++ body)) / 2 ^ 24 : Nat) : Int), byteOf (((crc ((putNum seq) ++ body)) / 2 ^ 16 : Nat) : Int), byteOf (((crc ((putNum seq) ++ body)) / 2 ^ 8 : Nat) : Int), byteOf ((crc ((putNum seq) ++ body) : Nat) : Int)] : List UInt8) ++ ((putNum seq) ++ body)).length c12) (([byteOf (((crc ((putNum seq) ++ body)) / 2 ^ 24 : Nat) : Int), byteOf (((crc ((putNum seq) ++ body)) / 2 ^ 16 : Nat) : Int), byteOf (((crc ((putNum seq) ++ body)) / 2 ^ 8 : Nat) : Int), byteOf ((crc ((putNum seq) ++ body) : Nat) : Int)] : List UInt8) ++ ((putNum seq) ++ body))] ?_)))
      · as_aux_lemma => kernel_rfl
      refine HPURE (js := [0, 0]) 0 [(7, .v (.slice a11 ((([byteOf (((crc ((putNum seq) ++ body)) / 2 ^ 24 : Nat) : Int), byteOf (((crc ((putNum seq) ++ body)) / 2 ^ 16 : Nat) : Int), byteOf (((crc ((putNum seq) ++ body)) / 2 ^ 8 : Nat) : Int), byteOf ((crc ((putNum seq) ++ body) : Nat) : Int)] : List UInt8) ++ ((putNum seq) ++ body)).length) c12)), (37, .v (.slice a11 ((([byteOf (((crc ((putNum seq) ++ body)) / 2 ^ 24 : Nat) : Int), byteOf (((crc ((putNum seq) ++ body)) / 2 ^ 16 : Nat) : Int), byteOf (((crc ((putNum seq) ++ body)) / 2 ^ 8 : Nat) : Int), byteOf ((crc ((putNum seq) ++ body) : Nat) : Int)] : List UInt8) ++ ((putNum seq) ++ body)).length) c12))] ?_ ?_ rfl ?_
      · as_aux_lemma => kernel_rfl
      · as_aux_lemma => kernel_rfl
      refine HPURE (js := [0, 0]) 1 [(7, .v (.slice a11 ((([byteOf (((crc ((putNum seq) ++ body)) / 2 ^ 24 : Nat) : Int), byteOf (((crc ((putNum seq) ++ body)) / 2 ^ 16 : Nat) : Int), byteOf (((crc ((putNum seq) ++ body)) / 2 ^ 8 : Nat) : Int), byteOf ((crc ((putNum seq) ++ body) : Nat) : Int)] : List UInt8) ++ ((putNum seq) ++ body)).length) c12)), (38, I (((([byteOf (((crc ((putNum seq) ++ body)) / 2 ^ 24 : Nat) : Int), byteOf (((crc ((putNum seq) ++ body)) / 2 ^ 16 : Nat) : Int), byteOf (((crc ((putNum seq) ++ body)) / 2 ^ 8 : Nat) : Int), byteOf ((crc ((putNum seq) ++ body) : Nat) : Int)] : List UInt8) ++ ((putNum seq) ++ body)).length : Nat) : Int))] ?_ ?_ rfl ?_
      · as_aux_lemma => kernel_rfl
      · as_aux_lemma => kernel_rfl
      refine HPURE (js := [0, 0]) 4 [(38, I (((([byteOf (((crc ((putNum seq) ++ body)) / 2 ^ 24 : Nat) : Int), byteOf (((crc ((putNum seq) ++ body)) / 2 ^ 16 : Nat) : Int), byteOf (((crc ((putNum seq) ++ body)) / 2 ^ 8 : Nat) : Int), byteOf ((crc ((putNum seq) ++ body) : Nat) : Int)] : List UInt8) ++ ((putNum seq) ++ body)).length : Nat) : Int)), (41, .v (.slice a11 ((([byteOf (((crc ((putNum seq) ++ body)) / 2 ^ 24 : Nat) : Int), byteOf (((crc ((putNum seq) ++ body)) / 2 ^ 16 : Nat) : Int), byteOf (((crc ((putNum seq) ++ body)) / 2 ^ 8 : Nat) : Int), byteOf ((crc ((putNum seq) ++ body) : Nat) : Int)] : List UInt8) ++ ((putNum seq) ++ body)).length) c12))] ?_ ?_ rfl ?_
      · as_aux_lemma => kernel_rfl
      · as_aux_lemma => kernel_rfl
      refine HALL [2, 5] ?_ (by decide) ⟨?_, ?_⟩
      · as_aux_lemma => kernel_rfl
      · -- operation 2 next
        refine CALL 26 #[vi (((([byteOf (((crc ((putNum seq) ++ body)) / 2 ^ 24 : Nat) : Int), byteOf (((crc ((putNum seq) ++ body)) / 2 ^ 16 : Nat) : Int), byteOf (((crc ((putNum seq) ++ body)) / 2 ^ 8 : Nat) : Int), byteOf ((crc ((putNum seq) ++ body) : Nat) : Int)] : List UInt8) ++ ((putNum seq) ++ body)).length : Nat) : Int)] (some 39) ?_ [] [] _ rfl (⟨HH, fun p => .slice p.1 ((putNum (((([byteOf (((crc ((putNum seq) ++ body)) / 2 ^ 24 : Nat) : Int), byteOf (((crc ((putNum seq) ++ body)) / 2 ^ 16 : Nat) : Int), byteOf (((crc ((putNum seq) ++ body)) / 2 ^ 8 : Nat) : Int), byteOf ((crc ((putNum seq) ++ body) : Nat) : Int)] : List UInt8) ++ ((putNum seq) ++ body)).length : Nat) : Int)).length) p.2, fun p => [slA 5 byteL (.slice p.1 (putNum (((([byteOf (((crc ((putNum seq) ++ body)) / 2 ^ 24 : Nat) : Int), byteOf (((crc ((putNum seq) ++ body)) / 2 ^ 16 : Nat) : Int), byteOf (((crc ((putNum seq) ++ body)) / 2 ^ 8 : Nat) : Int), byteOf ((crc ((putNum seq) ++ body) : Nat) : Int)] : List UInt8) ++ ((putNum seq) ++ body)).length : Nat) : Int)).length p.2) (putNum (((([byteOf (((crc ((putNum seq) ++ body)) / 2 ^ 24 : Nat) : Int), byteOf (((crc ((putNum seq) ++ body)) / 2 ^ 16 : Nat) : Int), byteOf (((crc ((putNum seq) ++ body)) / 2 ^ 8 : Nat) : Int), byteOf ((crc ((putNum seq) ++ body) : Nat) : Int)] : List UInt8) ++ ((putNum seq) ++ body)).length : Nat) : Int))]⟩) (fun w hw => iPutNum_c w (((([byteOf (((crc ((putNum seq) ++ body)) / 2 ^ 24 : Nat) : Int), byteOf (((crc ((putNum seq) ++ body)) / 2 ^ 16 : Nat) : Int), byteOf (((crc ((putNum seq) ++ body)) / 2 ^ 8 : Nat) : Int), byteOf ((crc ((putNum seq) ++ body) : Nat) : Int)] : List UInt8) ++ ((putNum seq) ++ body)).length : Nat) : Int)) (by rintro _ ⟨⟩; exact Nat.le_of_ble_eq_true rfl) ?_
        · as_aux_lemma => kernel_rfl
        rintro ⟨a14, c15⟩
        have hr16 := putNum_len (((([byteOf (((crc ((putNum seq) ++ body)) / 2 ^ 24 : Nat) : Int), byteOf (((crc ((putNum seq) ++ body)) / 2 ^ 16 : Nat) : Int), byteOf (((crc ((putNum seq) ++ body)) / 2 ^ 8 : Nat) : Int), byteOf ((crc ((putNum seq) ++ body) : Nat) : Int)] : List UInt8) ++ ((putNum seq) ++ body)).length : Nat) : Int)
        refine HKEEP (js := [0, 0]) rfl (HALL [3, 5] ?_ (by decide) ⟨?_, ?_⟩)
        · as_aux_lemma => kernel_rfl
        · -- operation 3 next
          refine RUNV (.convert 22 9 (.tmp 39)) 40 9 ?_ (Nat.le_of_ble_eq_true rfl) (.string (bs (putNum (((([byteOf (((crc ((putNum seq) ++ body)) / 2 ^ 24 : Nat) : Int), byteOf (((crc ((putNum seq) ++ body)) / 2 ^ 16 : Nat) : Int), byteOf (((crc ((putNum seq) ++ body)) / 2 ^ 8 : Nat) : Int), byteOf ((crc ((putNum seq) ++ body) : Nat) : Int)] : List UInt8) ++ ((putNum seq) ++ body)).length : Nat) : Int)))) (runs_bstr (a := a14) (n := (putNum (((([byteOf (((crc ((putNum seq) ++ body)) / 2 ^ 24 : Nat) : Int), byteOf (((crc ((putNum seq) ++ body)) / 2 ^ 16 : Nat) : Int), byteOf (((crc ((putNum seq) ++ body)) / 2 ^ 8 : Nat) : Int), byteOf ((crc ((putNum seq) ++ body) : Nat) : Int)] : List UInt8) ++ ((putNum seq) ++ body)).length : Nat) : Int)).length) (c := c15) (xs := putNum (((([byteOf (((crc ((putNum seq) ++ body)) / 2 ^ 24 : Nat) : Int), byteOf (((crc ((putNum seq) ++ body)) / 2 ^ 16 : Nat) : Int), byteOf (((crc ((putNum seq) ++ body)) / 2 ^ 8 : Nat) : Int), byteOf ((crc ((putNum seq) ++ body) : Nat) : Int)] : List UInt8) ++ ((putNum seq) ++ body)).length : Nat) : Int)) (e := 5) ?_ ?_ ?_ ?_ rfl (fun w hw => (hw.rdO 2 rfl))) ?_
          · as_aux_lemma => kernel_rfl
          · as_aux_lemma => kernel_rfl
          · as_aux_lemma => kernel_rfl
          · as_aux_lemma => kernel_rfl
          · as_aux_lemma => kernel_rfl
          refine HKEEP (js := [0, 0]) rfl (HALL [5] ?_ (by decide) ?_)
          · as_aux_lemma => kernel_rfl
          refine RUNV (.convert 22 9 (.tmp 41)) 42 9 ?_ (Nat.le_of_ble_eq_true rfl) (.string (bs (([byteOf (((crc ((putNum seq) ++ body)) / 2 ^ 24 : Nat) : Int), byteOf (((crc ((putNum seq) ++ body)) / 2 ^ 16 : Nat) : Int), byteOf (((crc ((putNum seq) ++ body)) / 2 ^ 8 : Nat) : Int), byteOf ((crc ((putNum seq) ++ body) : Nat) : Int)] : List UInt8) ++ ((putNum seq) ++ body)))) (runs_bstr (a := a11) (n := (([byteOf (((crc ((putNum seq) ++ body)) / 2 ^ 24 : Nat) : Int), byteOf (((crc ((putNum seq) ++ body)) / 2 ^ 16 : Nat) : Int), byteOf (((crc ((putNum seq) ++ body)) / 2 ^ 8 : Nat) : Int), byteOf ((crc ((putNum seq) ++ body) : Nat) : Int)] : List UInt8) ++ ((putNum seq) ++ body)).length) (c := c12) (xs := ([byteOf (((crc ((putNum seq) ++ body)) / 2 ^ 24 : Nat) : Int), byteOf (((crc ((putNum seq) ++ body)) / 2 ^ 16 : Nat) : Int), byteOf (((crc ((putNum seq) ++ body)) / 2 ^ 8 : Nat) : Int), byteOf ((crc ((putNum seq) ++ body) : Nat) : Int)] : List UInt8) ++ ((putNum seq) ++ body)) (e := 5) ?_ ?_ ?_ ?_ rfl (fun w hw => (hw.rdO 1 rfl))) ?_
          · as_aux_lemma => kernel_rfl
          · as_aux_lemma => kernel_rfl
          · as_aux_lemma => kernel_rfl
          · as_aux_lemma => kernel_rfl
          · as_aux_lemma => kernel_rfl
          refine HKEEP (js := [0, 0]) rfl (HRUNV (i := 6) (js := [0, 0])  (.binOp .add 9 (.tmp 40) (.tmp 42) 9) 43 9 ?_ (Nat.le_of_ble_eq_true rfl) (.string (bs ((putNum (((([byteOf (((crc ((putNum seq) ++ body)) / 2 ^ 24 : Nat) : Int), byteOf (((crc ((putNum seq) ++ body)) / 2 ^ 16 : Nat) : Int), byteOf (((crc ((putNum seq) ++ body)) / 2 ^ 8 : Nat) : Int), byteOf ((crc ((putNum seq) ++ body) : Nat) : Int)] : List UInt8) ++ ((putNum seq) ++ body)).length : Nat) : Int)) ++ (([byteOf (((crc ((putNum seq) ++ body)) / 2 ^ 24 : Nat) : Int), byteOf (((crc ((putNum seq) ++ body)) / 2 ^ 16 : Nat) : Int), byteOf (((crc ((putNum seq) ++ body)) / 2 ^ 8 : Nat) : Int), byteOf ((crc ((putNum seq) ++ body) : Nat) : Int)] : List UInt8) ++ ((putNum seq) ++ body))))) (runs_scat (a := putNum (((([byteOf (((crc ((putNum seq) ++ body)) / 2 ^ 24 : Nat) : Int), byteOf (((crc ((putNum seq) ++ body)) / 2 ^ 16 : Nat) : Int), byteOf (((crc ((putNum seq) ++ body)) / 2 ^ 8 : Nat) : Int), byteOf ((crc ((putNum seq) ++ body) : Nat) : Int)] : List UInt8) ++ ((putNum seq) ++ body)).length : Nat) : Int)) (b := ([byteOf (((crc ((putNum seq) ++ body)) / 2 ^ 24 : Nat) : Int), byteOf (((crc ((putNum seq) ++ body)) / 2 ^ 16 : Nat) : Int), byteOf (((crc ((putNum seq) ++ body)) / 2 ^ 8 : Nat) : Int), byteOf ((crc ((putNum seq) ++ body) : Nat) : Int)] : List UInt8) ++ ((putNum seq) ++ body)) ?_ ?_ (by first | omega | (simp only [List.length_append, List.length_cons, List.length_nil, List.length_take, List.length_drop] at *; omega))) ?_ rfl ?_)
          · as_aux_lemma => kernel_rfl
          · as_aux_lemma => kernel_rfl
          · as_aux_lemma => kernel_rfl
          · as_aux_lemma => kernel_rfl
          refine HPURE (js := [0, 0]) 7 [(4, .v (.string (bs ((putNum (((([byteOf (((crc ((putNum seq) ++ body)) / 2 ^ 24 : Nat) : Int), byteOf (((crc ((putNum seq) ++ body)) / 2 ^ 16 : Nat) : Int), byteOf (((crc ((putNum seq) ++ body)) / 2 ^ 8 : Nat) : Int), byteOf ((crc ((putNum seq) ++ body) : Nat) : Int)] : List UInt8) ++ ((putNum seq) ++ body)).length : Nat) : Int)) ++ (([byteOf (((crc ((putNum seq) ++ body)) / 2 ^ 24 : Nat) : Int), byteOf (((crc ((putNum seq) ++ body)) / 2 ^ 16 : Nat) : Int), byteOf (((crc ((putNum seq) ++ body)) / 2 ^ 8 : Nat) : Int), byteOf ((crc ((putNum seq) ++ body) : Nat) : Int)] : List UInt8) ++ ((putNum seq) ++ body))))))] ?_ ?_ rfl ?_
          · as_aux_lemma => kernel_rfl
          · as_aux_lemma => kernel_rfl
          refine HEND ?_ ?_
          · as_aux_lemma => kernel_rfl
          refine NEXT (RET (FIN (.string (bs ((putNum (((([byteOf (((crc ((putNum seq) ++ body)) / 2 ^ 24 : Nat) : Int), byteOf (((crc ((putNum seq) ++ body)) / 2 ^ 16 : Nat) : Int), byteOf (((crc ((putNum seq) ++ body)) / 2 ^ 8 : Nat) : Int), byteOf ((crc ((putNum seq) ++ body) : Nat) : Int)] : List UInt8) ++ ((putNum seq) ++ body)).length : Nat) : Int)) ++ (([byteOf (((crc ((putNum seq) ++ body)) / 2 ^ 24 : Nat) : Int), byteOf (((crc ((putNum seq) ++ body)) / 2 ^ 16 : Nat) : Int), byteOf (((crc ((putNum seq) ++ body)) / 2 ^ 8 : Nat) : Int), byteOf ((crc ((putNum seq) ++ body) : Nat) : Int)] : List UInt8) ++ ((putNum seq) ++ body))))) ?_ () ?_ [] ?_))
          · as_aux_lemma => kernel_rfl
          · simp_all [RV, frameOf, four_nat]
          · rfl
        · -- operation 5 next
          refine RUNV (.convert 22 9 (.tmp 41)) 42 9 ?_ (Nat.le_of_ble_eq_true rfl) (.string (bs (([byteOf (((crc ((putNum seq) ++ body)) / 2 ^ 24 : Nat) : Int), byteOf (((crc ((putNum seq) ++ body)) / 2 ^ 16 : Nat) : Int), byteOf (((crc ((putNum seq) ++ body)) / 2 ^ 8 : Nat) : Int), byteOf ((crc ((putNum seq) ++ body) : Nat) : Int)] : List UInt8) ++ ((putNum seq) ++ body)))) (runs_bstr (a := a11) (n := (([byteOf (((crc ((putNum seq) ++ body)) / 2 ^ 24 : Nat) : Int), byteOf (((crc ((putNum seq) ++ body)) / 2 ^ 16 : Nat) : Int), byteOf (((crc ((putNum seq) ++ body)) / 2 ^ 8 : Nat) : Int), byteOf ((crc ((putNum seq) ++ body) : Nat) : Int)] : List UInt8) ++ ((putNum seq) ++ body)).length) (c := c12) (xs := ([byteOf (((crc ((putNum seq) ++ body)) / 2 ^ 24 : Nat) : Int), byteOf (((crc ((putNum seq) ++ body)) / 2 ^ 16 : Nat) : Int), byteOf (((crc ((putNum seq) ++ body)) / 2 ^ 8 : Nat) : Int), byteOf ((crc ((putNum seq) ++ body) : Nat) : Int)] : List UInt8) ++ ((putNum seq) ++ body)) (e := 5) ?_ ?_ ?_ ?_ rfl (fun w hw => (hw.rdO 1 rfl))) ?_
          · as_aux_lemma => kernel_rfl
          · as_aux_lemma => kernel_rfl
          · as_aux_lemma => kernel_rfl
          · as_aux_lemma => kernel_rfl
          · as_aux_lemma => kernel_rfl
          refine HKEEP (js := [0, 0]) rfl (HALL [3] ?_ (by decide) ?_)
          · as_aux_lemma => kernel_rfl
          refine RUNV (.convert 22 9 (.tmp 39)) 40 9 ?_ (Nat.le_of_ble_eq_true rfl) (.string (bs (putNum (((([byteOf (((crc ((putNum seq) ++ body)) / 2 ^ 24 : Nat) : Int), byteOf (((crc ((putNum seq) ++ body)) / 2 ^ 16 : Nat) : Int), byteOf (((crc ((putNum seq) ++ body)) / 2 ^ 8 : Nat) : Int), byteOf ((crc ((putNum seq) ++ body) : Nat) : Int)] : List UInt8) ++ ((putNum seq) ++ body)).length : Nat) : Int)))) (runs_bstr (a := a14) (n := (putNum (((([byteOf (((crc ((putNum seq) ++ body)) / 2 ^ 24 : Nat) : Int), byteOf (((crc ((putNum seq) ++ body)) / 2 ^ 16 : Nat) : Int), byteOf (((crc ((putNum seq) ++ body)) / 2 ^ 8 : Nat) : Int), byteOf ((crc ((putNum seq) ++ body) : Nat) : Int)] : List UInt8) ++ ((putNum seq) ++ body)).length : Nat) : Int)).length) (c := c15) (xs := putNum (((([byteOf (((crc ((putNum seq) ++ body)) / 2 ^ 24 : Nat) : Int), byteOf (((crc ((putNum seq) ++ body)) / 2 ^ 16 : Nat) : Int), byteOf (((crc ((putNum seq) ++ body)) / 2 ^ 8 : Nat) : Int), byteOf ((crc ((putNum seq) ++ body) : Nat) : Int)] : List UInt8) ++ ((putNum seq) ++ body)).length : Nat) : Int)) (e := 5) ?_ ?_ ?_ ?_ rfl (fun w hw => (hw.rdO 2 rfl))) ?_
          · as_aux_lemma => kernel_rfl
          · as_aux_lemma => kernel_rfl
          · as_aux_lemma => kernel_rfl
          · as_aux_lemma => kernel_rfl
          · as_aux_lemma => kernel_rfl
          refine HKEEP (js := [0, 0]) rfl (HRUNV (i := 6) (js := [0, 0])  (.binOp .add 9 (.tmp 40) (.tmp 42) 9) 43 9 ?_ (Nat.le_of_ble_eq_true rfl) (.string (bs ((putNum (((([byteOf (((crc ((putNum seq) ++ body)) / 2 ^ 24 : Nat) : Int), byteOf (((crc ((putNum seq) ++ body)) / 2 ^ 16 : Nat) : Int), byteOf (((crc ((putNum seq) ++ body)) / 2 ^ 8 : Nat) : Int), byteOf ((crc ((putNum seq) ++ body) : Nat) : Int)] : List UInt8) ++ ((putNum seq) ++ body)).length : Nat) : Int)) ++ (([byteOf (((crc ((putNum seq) ++ body)) / 2 ^ 24 : Nat) : Int), byteOf (((crc ((putNum seq) ++ body)) / 2 ^ 16 : Nat) : Int), byteOf (((crc ((putNum seq) ++ body)) / 2 ^ 8 : Nat) : Int), byteOf ((crc ((putNum seq) ++ body) : Nat) : Int)] : List UInt8) ++ ((putNum seq) ++ body))))) (runs_scat (a := putNum (((([byteOf (((crc ((putNum seq) ++ body)) / 2 ^ 24 : Nat) : Int), byteOf (((crc ((putNum seq) ++ body)) / 2 ^ 16 : Nat) : Int), byteOf (((crc ((putNum seq) ++ body)) / 2 ^ 8 : Nat) : Int), byteOf ((crc ((putNum seq) ++ body) : Nat) : Int)] : List UInt8) ++ ((putNum seq) ++ body)).length : Nat) : Int)) (b := ([byteOf (((crc ((putNum seq) ++ body)) / 2 ^ 24 : Nat) : Int), byteOf (((crc ((putNum seq) ++ body)) / 2 ^ 16 : Nat) : Int), byteOf (((crc ((putNum seq) ++ body)) / 2 ^ 8 : Nat) : Int), byteOf ((crc ((putNum seq) ++ body) : Nat) : Int)] : List UInt8) ++ ((putNum seq) ++ body)) ?_ ?_ (by first | omega | (simp only [List.length_append, List.length_cons, List.length_nil, List.length_take, List.length_drop] at *; omega))) ?_ rfl ?_)
          · as_aux_lemma => kernel_rfl
          · as_aux_lemma => kernel_rfl
          · as_aux_lemma => kernel_rfl
          · as_aux_lemma => kernel_rfl
          refine HPURE (js := [0, 0]) 7 [(4, .v (.string (bs ((putNum (((([byteOf (((crc ((putNum seq) ++ body)) / 2 ^ 24 : Nat) : Int), byteOf (((crc ((putNum seq) ++ body)) / 2 ^ 16 : Nat) : Int), byteOf (((crc ((putNum seq) ++ body)) / 2 ^ 8 : Nat) : Int), byteOf ((crc ((putNum seq) ++ body) : Nat) : Int)] : List UInt8) ++ ((putNum seq) ++ body)).length : Nat) : Int)) ++ (([byteOf (((crc ((putNum seq) ++ body)) / 2 ^ 24 : Nat) : Int), byteOf (((crc ((putNum seq) ++ body)) / 2 ^ 16 : Nat) : Int), byteOf (((crc ((putNum seq) ++ body)) / 2 ^ 8 : Nat) : Int), byteOf ((crc ((putNum seq) ++ body) : Nat) : Int)] : List UInt8) ++ ((putNum seq) ++ body))))))] ?_ ?_ rfl ?_
          · as_aux_lemma => kernel_rfl
          · as_aux_lemma => kernel_rfl
          refine HEND ?_ ?_
          · as_aux_lemma => kernel_rfl
          refine NEXT (RET (FIN (.string (bs ((putNum (((([byteOf (((crc ((putNum seq) ++ body)) / 2 ^ 24 : Nat) : Int), byteOf (((crc ((putNum seq) ++ body)) / 2 ^ 16 : Nat) : Int), byteOf (((crc ((putNum seq) ++ body)) / 2 ^ 8 : Nat) : Int), byteOf ((crc ((putNum seq) ++ body) : Nat) : Int)] : List UInt8) ++ ((putNum seq) ++ body)).length : Nat) : Int)) ++ (([byteOf (((crc ((putNum seq) ++ body)) / 2 ^ 24 : Nat) : Int), byteOf (((crc ((putNum seq) ++ body)) / 2 ^ 16 : Nat) : Int), byteOf (((crc ((putNum seq) ++ body)) / 2 ^ 8 : Nat) : Int), byteOf ((crc ((putNum seq) ++ body) : Nat) : Int)] : List UInt8) ++ ((putNum seq) ++ body))))) ?_ () ?_ [] ?_))
          · as_aux_lemma => kernel_rfl
          · simp_all [RV, frameOf, four_nat]
          · rfl
      · -- operation 5 next
        refine RUNV (.convert 22 9 (.tmp 41)) 42 9 ?_ (Nat.le_of_ble_eq_true rfl) (.string (bs (([byteOf (((crc ((putNum seq) ++ body)) / 2 ^ 24 : Nat) : Int), byteOf (((crc ((putNum seq) ++ body)) / 2 ^ 16 : Nat) : Int), byteOf (((crc ((putNum seq) ++ body)) / 2 ^ 8 : Nat) : Int), byteOf ((crc ((putNum seq) ++ body) : Nat) : Int)] : List UInt8) ++ ((putNum seq) ++ body)))) (runs_bstr (a := a11) (n := (([byteOf (((crc ((putNum seq) ++ body)) / 2 ^ 24 : Nat) : Int), byteOf (((crc ((putNum seq) ++ body)) / 2 ^ 16 : Nat) : Int), byteOf (((crc ((putNum seq) ++ body)) / 2 ^ 8 : Nat) : Int), byteOf ((crc ((putNum seq) ++ body) : Nat) : Int)] : List UInt8) ++ ((putNum seq) ++ body)).length) (c := c12) (xs := ([byteOf (((crc ((putNum seq) ++ body)) / 2 ^ 24 : Nat) : Int), byteOf (((crc ((putNum seq) ++ body)) / 2 ^ 16 : Nat) : Int), byteOf (((crc ((putNum seq) ++ body)) / 2 ^ 8 : Nat) : Int), byteOf ((crc ((putNum seq) ++ body) : Nat) : Int)] : List UInt8) ++ ((putNum seq) ++ body)) (e := 5) ?_ ?_ ?_ ?_ rfl (fun w hw => (hw.rdO 1 rfl))) ?_
        · as_aux_lemma => kernel_rfl
        · as_aux_lemma => kernel_rfl
        · as_aux_lemma => kernel_rfl
        · as_aux_lemma => kernel_rfl
        · as_aux_lemma => kernel_rfl
        refine HKEEP (js := [0, 0]) rfl (HALL [2] ?_ (by decide) ?_)
        · as_aux_lemma => kernel_rfl
        refine CALL 26 #[vi (((([byteOf (((crc ((putNum seq) ++ body)) / 2 ^ 24 : Nat) : Int), byteOf (((crc ((putNum seq) ++ body)) / 2 ^ 16 : Nat) : Int), byteOf (((crc ((putNum seq) ++ body)) / 2 ^ 8 : Nat) : Int), byteOf ((crc ((putNum seq) ++ body) : Nat) : Int)] : List UInt8) ++ ((putNum seq) ++ body)).length : Nat) : Int)] (some 39) ?_ [] [] _ rfl (⟨HH, fun p => .slice p.1 ((putNum (((([byteOf (((crc ((putNum seq) ++ body)) / 2 ^ 24 : Nat) : Int), byteOf (((crc ((putNum seq) ++ body)) / 2 ^ 16 : Nat) : Int), byteOf (((crc ((putNum seq) ++ body)) / 2 ^ 8 : Nat) : Int), byteOf ((crc ((putNum seq) ++ body) : Nat) : Int)] : List UInt8) ++ ((putNum seq) ++ body)).length : Nat) : Int)).length) p.2, fun p => [slA 5 byteL (.slice p.1 (putNum (((([byteOf (((crc ((putNum seq) ++ body)) / 2 ^ 24 : Nat) : Int), byteOf (((crc ((putNum seq) ++ body)) / 2 ^ 16 : Nat) : Int), byteOf (((crc ((putNum seq) ++ body)) / 2 ^ 8 : Nat) : Int), byteOf ((crc ((putNum seq) ++ body) : Nat) : Int)] : List UInt8) ++ ((putNum seq) ++ body)).length : Nat) : Int)).length p.2) (putNum (((([byteOf (((crc ((putNum seq) ++ body)) / 2 ^ 24 : Nat) : Int), byteOf (((crc ((putNum seq) ++ body)) / 2 ^ 16 : Nat) : Int), byteOf (((crc ((putNum seq) ++ body)) / 2 ^ 8 : Nat) : Int), byteOf ((crc ((putNum seq) ++ body) : Nat) : Int)] : List UInt8) ++ ((putNum seq) ++ body)).length : Nat) : Int))]⟩) (fun w hw => iPutNum_c w (((([byteOf (((crc ((putNum seq) ++ body)) / 2 ^ 24 : Nat) : Int), byteOf (((crc ((putNum seq) ++ body)) / 2 ^ 16 : Nat) : Int), byteOf (((crc ((putNum seq) ++ body)) / 2 ^ 8 : Nat) : Int), byteOf ((crc ((putNum seq) ++ body) : Nat) : Int)] : List UInt8) ++ ((putNum seq) ++ body)).length : Nat) : Int)) (by rintro _ ⟨⟩; exact Nat.le_of_ble_eq_true rfl) ?_
        · as_aux_lemma => kernel_rfl
        rintro ⟨a17, c18⟩
        have hr19 := putNum_len (((([byteOf (((crc ((putNum seq) ++ body)) / 2 ^ 24 : Nat) : Int), byteOf (((crc ((putNum seq) ++ body)) / 2 ^ 16 : Nat) : Int), byteOf (((crc ((putNum seq) ++ body)) / 2 ^ 8 : Nat) : Int), byteOf ((crc ((putNum seq) ++ body) : Nat) : Int)] : List UInt8) ++ ((putNum seq) ++ body)).length : Nat) : Int)
        refine HKEEP (js := [0, 0]) rfl (HALL [3] ?_ (by decide) ?_)
        · as_aux_lemma => kernel_rfl
        refine RUNV (.convert 22 9 (.tmp 39)) 40 9 ?_ (Nat.le_of_ble_eq_true rfl) (.string (bs (putNum (((([byteOf (((crc ((putNum seq) ++ body)) / 2 ^ 24 : Nat) : Int), byteOf (((crc ((putNum seq) ++ body)) / 2 ^ 16 : Nat) : Int), byteOf (((crc ((putNum seq) ++ body)) / 2 ^ 8 : Nat) : Int), byteOf ((crc ((putNum seq) ++ body) : Nat) : Int)] : List UInt8) ++ ((putNum seq) ++ body)).length : Nat) : Int)))) (runs_bstr (a := a17) (n := (putNum (((([byteOf (((crc ((putNum seq) ++ body)) / 2 ^ 24 : Nat) : Int), byteOf (((crc ((putNum seq) ++ body)) / 2 ^ 16 : Nat) : Int), byteOf (((crc ((putNum seq) ++ body)) / 2 ^ 8 : Nat) : Int), byteOf ((crc ((putNum seq) ++ body) : Nat) : Int)] : List UInt8) ++ ((putNum seq) ++ body)).length : Nat) : Int)).length) (c := c18) (xs := putNum (((([byteOf (((crc ((putNum seq) ++ body)) / 2 ^ 24 : Nat) : Int), byteOf (((crc ((putNum seq) ++ body)) / 2 ^ 16 : Nat) : Int), byteOf (((crc ((putNum seq) ++ body)) / 2 ^ 8 : Nat) : Int), byteOf ((crc ((putNum seq) ++ body) : Nat) : Int)] : List UInt8) ++ ((putNum seq) ++ body)).length : Nat) : Int)) (e := 5) ?_ ?_ ?_ ?_ rfl (fun w hw => (hw.rdO 2 rfl))) ?_
        · as_aux_lemma => kernel_rfl
        · as_aux_lemma => kernel_rfl
        · as_aux_lemma => kernel_rfl
        · as_aux_lemma => kernel_rfl
        · as_aux_lemma => kernel_rfl
        refine HKEEP (js := [0, 0]) rfl (HRUNV (i := 6) (js := [0, 0])  (.binOp .add 9 (.tmp 40) (.tmp 42) 9) 43 9 ?_ (Nat.le_of_ble_eq_true rfl) (.string (bs ((putNum (((([byteOf (((crc ((putNum seq) ++ body)) / 2 ^ 24 : Nat) : Int), byteOf (((crc ((putNum seq) ++ body)) / 2 ^ 16 : Nat) : Int), byteOf (((crc ((putNum seq) ++ body)) / 2 ^ 8 : Nat) : Int), byteOf ((crc ((putNum seq) ++ body) : Nat) : Int)] : List UInt8) ++ ((putNum seq) ++ body)).length : Nat) : Int)) ++ (([byteOf (((crc ((putNum seq) ++ body)) / 2 ^ 24 : Nat) : Int), byteOf (((crc ((putNum seq) ++ body)) / 2 ^ 16 : Nat) : Int), byteOf (((crc ((putNum seq) ++ body)) / 2 ^ 8 : Nat) : Int), byteOf ((crc ((putNum seq) ++ body) : Nat) : Int)] : List UInt8) ++ ((putNum seq) ++ body))))) (runs_scat (a := putNum (((([byteOf (((crc ((putNum seq) ++ body)) / 2 ^ 24 : Nat) : Int), byteOf (((crc ((putNum seq) ++ body)) / 2 ^ 16 : Nat) : Int), byteOf (((crc ((putNum seq) ++ body)) / 2 ^ 8 : Nat) : Int), byteOf ((crc ((putNum seq) ++ body) : Nat) : Int)] : List UInt8) ++ ((putNum seq) ++ body)).length : Nat) : Int)) (b := ([byteOf (((crc ((putNum seq) ++ body)) / 2 ^ 24 : Nat) : Int), byteOf (((crc ((putNum seq) ++ body)) / 2 ^ 16 : Nat) : Int), byteOf (((crc ((putNum seq) ++ body)) / 2 ^ 8 : Nat) : Int), byteOf ((crc ((putNum seq) ++ body) : Nat) : Int)] : List UInt8) ++ ((putNum seq) ++ body)) ?_ ?_ (by first | omega | (simp only [List.length_append, List.length_cons, List.length_nil, List.length_take, List.length_drop] at *; omega))) ?_ rfl ?_)
        · as_aux_lemma => kernel_rfl
        · as_aux_lemma => kernel_rfl
        · as_aux_lemma => kernel_rfl
        · as_aux_lemma => kernel_rfl
        refine HPURE (js := [0, 0]) 7 [(4, .v (.string (bs ((putNum (((([byteOf (((crc ((putNum seq) ++ body)) / 2 ^ 24 : Nat) : Int), byteOf (((crc ((putNum seq) ++ body)) / 2 ^ 16 : Nat) : Int), byteOf (((crc ((putNum seq) ++ body)) / 2 ^ 8 : Nat) : Int), byteOf ((crc ((putNum seq) ++ body) : Nat) : Int)] : List UInt8) ++ ((putNum seq) ++ body)).length : Nat) : Int)) ++ (([byteOf (((crc ((putNum seq) ++ body)) / 2 ^ 24 : Nat) : Int), byteOf (((crc ((putNum seq) ++ body)) / 2 ^ 16 : Nat) : Int), byteOf (((crc ((putNum seq) ++ body)) / 2 ^ 8 : Nat) : Int), byteOf ((crc ((putNum seq) ++ body) : Nat) : Int)] : List UInt8) ++ ((putNum seq) ++ body))))))] ?_ ?_ rfl ?_
        · as_aux_lemma => kernel_rfl
        · as_aux_lemma => kernel_rfl
        refine HEND ?_ ?_
        · as_aux_lemma => kernel_rfl
        refine NEXT (RET (FIN (.string (bs ((putNum (((([byteOf (((crc ((putNum seq) ++ body)) / 2 ^ 24 : Nat) : Int), byteOf (((crc ((putNum seq) ++ body)) / 2 ^ 16 : Nat) : Int), byteOf (((crc ((putNum seq) ++ body)) / 2 ^ 8 : Nat) : Int), byteOf ((crc ((putNum seq) ++ body) : Nat) : Int)] : List UInt8) ++ ((putNum seq) ++ body)).length : Nat) : Int)) ++ (([byteOf (((crc ((putNum seq) ++ body)) / 2 ^ 24 : Nat) : Int), byteOf (((crc ((putNum seq) ++ body)) / 2 ^ 16 : Nat) : Int), byteOf (((crc ((putNum seq) ++ body)) / 2 ^ 8 : Nat) : Int), byteOf ((crc ((putNum seq) ++ body) : Nat) : Int)] : List UInt8) ++ ((putNum seq) ++ body))))) ?_ () ?_ [] ?_))
        · as_aux_lemma => kernel_rfl
        · simp_all [RV, frameOf, four_nat]
        · rfl

theorem sReqBytes_c (W : World) (q : Req) : Spec Try.prog W [] 24 #[.agg #[vi q.kind, vi q.id, vi q.cabin, vi q.from', vi q.size, vi q.tier]] (RV (.string (bs (reqBytes q)))) := by
  refine ENTER0 (N := 47) (vs := [.agg #[vi q.kind, vi q.id, vi q.cabin, vi q.from', vi q.size, vi q.tier]]) Try.func24 rfl rfl (Nat.le_of_ble_eq_true rfl) ?_
  refine SEQ (REGION [0, 1] rfl (RUN 2 [] [(1, .p 0 0)] [(25, [vi q.kind, vi q.id, vi q.cabin, vi q.from', vi q.size, vi q.tier])] ?_ rfl ?_))
  · as_aux_lemma => kernel_rfl
  refine ENDOPS (NEXT (SEQ (SEQ (REGION [0, 1, 2] rfl (RUN0 1 [1, 2] [(1, .p 0 0), (3, .v (.agg #[vi q.kind, vi q.id, vi q.cabin, vi q.from', vi q.size, vi q.tier]))] ?_ rfl ?_)))))
  · as_aux_lemma => kernel_rfl
  refine OPC (CALL 42 #[.agg #[vi q.kind, vi q.id, vi q.cabin, vi q.from', vi q.size, vi q.tier]] (some 4) ?_ [] [] _ rfl (RV (.bool (reqOk q))) (fun w hw => sReqOk_c w q) (by rintro _ ⟨⟩; exact Nat.le_of_ble_eq_true rfl) ?_)
  · as_aux_lemma => kernel_rfl
  rintro ⟨⟩
  refine RUN0 1 [] [(1, .p 0 0), (5, B (!(reqOk q)))] ?_ rfl ?_
  · as_aux_lemma => kernel_rfl
  refine ENDOPS (NEXT (IF (!(reqOk q)) ?_ (fun bh1 => ?_) (fun bh1 => ?_)))
  · as_aux_lemma => kernel_rfl
  · -- !(reqOk q) = true
    have h1 := bh1
    have h1 := notT h1
    refine SEQ (REGION [0] rfl (RUN0 1 [] [(2, .v (.string (bs ([]))))] ?_ rfl ?_))
    · as_aux_lemma => kernel_rfl
    refine ENDOPS (NEXT (RET (PASS trivial (FIN (.string (bs ([]))) ?_ () ?_ [] ?_))))
    · as_aux_lemma => kernel_rfl
    · simp_all [RV, reqBytes]
    · rfl
  · -- !(reqOk q) = false
    have h1 := bh1
    have h1 := notF h1
    refine SKIP (NEXT (SEQ (SEQ (REGION [0, 1] rfl (RUN0 2 [] [(1, .p 0 0), (7, I q.kind)] ?_ rfl ?_)))))
    · as_aux_lemma => kernel_rfl
    refine ENDOPS (NEXT (BLOCK (SEQ (REGION [0, 1] rfl (RUN0 2 [] [(1, .p 0 0), (7, I q.kind), (8, B (q.kind == 1))] ?_ rfl ?_)))))
    · as_aux_lemma => kernel_rfl
    refine ENDOPS (NEXT (IF (q.kind == 1) ?_ (fun bh2 => ?_) (fun bh2 => ?_)))
    · as_aux_lemma => kernel_rfl
    · -- q.kind == 1 = true
      have h2 := bh2
      have h2 := eq_of_beq h2
      refine SEQ (REGION [0, 1, 2, 3, 4, 5, 6, 7, 8, 9, 10, 11, 12, 13, 14, 15] rfl (RUN0 13 [13, 14, 15] [(11, I q.kind), (13, I q.id), (15, I q.cabin), (18, I (wr (q.from' + 1))), (20, I q.size), (22, I q.tier)] ?_ rfl ?_))
      · as_aux_lemma => kernel_rfl
      refine OPC (BUILDS 39 6 #[(0, .tmp 11), (1, .tmp 13), (2, .tmp 15), (3, .tmp 18), (4, .tmp 20), (5, .tmp 22)] 23 39 ?_ (Nat.le_of_ble_eq_true rfl) 3 [vi q.kind, vi q.id, vi q.cabin, vi (wr (q.from' + 1)), vi q.size, vi q.tier] ?_ intL [q.kind, q.id, q.cabin, wr (q.from' + 1), q.size, q.tier] rfl (by simp only [maxLen]; omega) [] [] _ rfl (flatRep rfl) (fun a3 ha4 => ?_))
      · as_aux_lemma => kernel_rfl
      · as_aux_lemma => kernel_rfl
      refine FACT (6 = ([q.kind, q.id, q.cabin, wr (q.from' + 1), q.size, q.tier]).length) (fun w hw => (SlO.lenE (hw.own 0 rfl)).1) (fun hln5 => ?_)
      refine OPC (CALL 43 #[.slice a3 6 6] (some 24) ?_ [] [] _ rfl (RV (.string (bs (putNums ([q.kind, q.id, q.cabin, wr (q.from' + 1), q.size, q.tier]))))) (fun w hw => (congrArg (fun z : Nat => Spec Try.prog w [] 43 #[.slice a3 z 6] (RV (.string (bs (putNums ([q.kind, q.id, q.cabin, wr (q.from' + 1), q.size, q.tier])))))) hln5).mpr (sNums_c w ([q.kind, q.id, q.cabin, wr (q.from' + 1), q.size, q.tier]) a3 6 (hw.rdO 0 rfl) (by simp only [List.length_cons, List.length_append, List.length_nil]; omega))) (by rintro _ ⟨⟩; exact Nat.le_of_ble_eq_true rfl) ?_)
      · as_aux_lemma => kernel_rfl
      rintro ⟨⟩
      refine RUN0 1 [] [(2, .v (.string (bs (putNums ([q.kind, q.id, q.cabin, wr (q.from' + 1), q.size, q.tier])))))] ?_ rfl ?_
      · as_aux_lemma => kernel_rfl
      refine ENDOPS (NEXT (RET (OUTR (PASS trivial (FIN (.string (bs (putNums ([q.kind, q.id, q.cabin, wr (q.from' + 1), q.size, q.tier])))) ?_ () ?_ [] ?_)))))
      · as_aux_lemma => kernel_rfl
      · simp_all [RV, reqBytes]
      · rfl
    · -- q.kind == 1 = false
      have h2 := bh2
      have h2 := ne_of_beq_false h2
      refine SEQ (REGION [0, 1] rfl (RUN0 2 [] [(1, .p 0 0), (7, I q.kind), (25, B (q.kind == 3))] ?_ rfl ?_))
      · as_aux_lemma => kernel_rfl
      refine ENDOPS (NEXT (IF (q.kind == 3) ?_ (fun bh6 => ?_) (fun bh6 => ?_)))
      · as_aux_lemma => kernel_rfl
      · -- q.kind == 3 = true
        have h6 := bh6
        have h6 := eq_of_beq h6
        refine SEQ (REGION [0, 1, 2, 3, 4, 5, 6, 7, 8] rfl (RUN0 6 [6, 7, 8] [(28, I q.kind), (30, I q.cabin), (32, I q.size)] ?_ rfl ?_))
        · as_aux_lemma => kernel_rfl
        refine OPC (BUILDS 39 3 #[(0, .tmp 28), (1, .tmp 30), (2, .tmp 32)] 33 39 ?_ (Nat.le_of_ble_eq_true rfl) 3 [vi q.kind, vi q.cabin, vi q.size] ?_ intL [q.kind, q.cabin, q.size] rfl (by simp only [maxLen]; omega) [] [] _ rfl (flatRep rfl) (fun a7 ha8 => ?_))
        · as_aux_lemma => kernel_rfl
        · as_aux_lemma => kernel_rfl
        refine FACT (3 = ([q.kind, q.cabin, q.size]).length) (fun w hw => (SlO.lenE (hw.own 0 rfl)).1) (fun hln9 => ?_)
        refine OPC (CALL 43 #[.slice a7 3 3] (some 34) ?_ [] [] _ rfl (RV (.string (bs (putNums ([q.kind, q.cabin, q.size]))))) (fun w hw => (congrArg (fun z : Nat => Spec Try.prog w [] 43 #[.slice a7 z 3] (RV (.string (bs (putNums ([q.kind, q.cabin, q.size])))))) hln9).mpr (sNums_c w ([q.kind, q.cabin, q.size]) a7 3 (hw.rdO 0 rfl) (by simp only [List.length_cons, List.length_append, List.length_nil]; omega))) (by rintro _ ⟨⟩; exact Nat.le_of_ble_eq_true rfl) ?_)
        · as_aux_lemma => kernel_rfl
        rintro ⟨⟩
        refine RUN0 1 [] [(2, .v (.string (bs (putNums ([q.kind, q.cabin, q.size])))))] ?_ rfl ?_
        · as_aux_lemma => kernel_rfl
        refine ENDOPS (NEXT (RET (OUTR (PASS trivial (FIN (.string (bs (putNums ([q.kind, q.cabin, q.size])))) ?_ () ?_ [] ?_)))))
        · as_aux_lemma => kernel_rfl
        · simp_all [RV, reqBytes]
        · rfl
      · -- q.kind == 3 = false
        have h6 := bh6
        have h6 := ne_of_beq_false h6
        refine SEQ (REGION [0, 1] rfl (RUN0 2 [] [(1, .p 0 0), (35, B (q.kind == 6))] ?_ rfl ?_))
        · as_aux_lemma => kernel_rfl
        refine ENDOPS (NEXT (IF (q.kind == 6) ?_ (fun bh10 => ?_) (fun bh10 => ?_)))
        · as_aux_lemma => kernel_rfl
        · -- q.kind == 6 = true
          have h10 := bh10
          have h10 := eq_of_beq h10
          refine SEQ (REGION [0, 1, 2, 3, 4] rfl (RUN0 2 [2, 3, 4] [(38, I q.kind)] ?_ rfl ?_))
          · as_aux_lemma => kernel_rfl
          refine OPC (BUILDS 39 1 #[(0, .tmp 38)] 39 39 ?_ (Nat.le_of_ble_eq_true rfl) 3 [vi q.kind] ?_ intL [q.kind] rfl (by simp only [maxLen]; omega) [] [] _ rfl (flatRep rfl) (fun a11 ha12 => ?_))
          · as_aux_lemma => kernel_rfl
          · as_aux_lemma => kernel_rfl
          refine FACT (1 = ([q.kind]).length) (fun w hw => (SlO.lenE (hw.own 0 rfl)).1) (fun hln13 => ?_)
          refine OPC (CALL 43 #[.slice a11 1 1] (some 40) ?_ [] [] _ rfl (RV (.string (bs (putNums ([q.kind]))))) (fun w hw => (congrArg (fun z : Nat => Spec Try.prog w [] 43 #[.slice a11 z 1] (RV (.string (bs (putNums ([q.kind])))))) hln13).mpr (sNums_c w ([q.kind]) a11 1 (hw.rdO 0 rfl) (by simp only [List.length_cons, List.length_append, List.length_nil]; omega))) (by rintro _ ⟨⟩; exact Nat.le_of_ble_eq_true rfl) ?_)
          · as_aux_lemma => kernel_rfl
          rintro ⟨⟩
          refine RUN0 1 [] [(2, .v (.string (bs (putNums ([q.kind])))))] ?_ rfl ?_
          · as_aux_lemma => kernel_rfl
          refine ENDOPS (NEXT (RET (OUTR (PASS trivial (FIN (.string (bs (putNums ([q.kind])))) ?_ () ?_ [] ?_)))))
          · as_aux_lemma => kernel_rfl
          · simp_all [RV, reqBytes]
          · rfl
        · -- q.kind == 6 = false
          have h10 := bh10
          have h10 := ne_of_beq_false h10
          refine SKIP (OUTN (NEXT (SEQ (REGION [0, 1, 2, 3, 4, 5, 6] rfl (RUN0 4 [4, 5, 6] [(42, I q.kind), (44, I q.id)] ?_ rfl ?_)))))
          · as_aux_lemma => kernel_rfl
          refine OPC (BUILDS 39 2 #[(0, .tmp 42), (1, .tmp 44)] 45 39 ?_ (Nat.le_of_ble_eq_true rfl) 3 [vi q.kind, vi q.id] ?_ intL [q.kind, q.id] rfl (by simp only [maxLen]; omega) [] [] _ rfl (flatRep rfl) (fun a14 ha15 => ?_))
          · as_aux_lemma => kernel_rfl
          · as_aux_lemma => kernel_rfl
          refine FACT (2 = ([q.kind, q.id]).length) (fun w hw => (SlO.lenE (hw.own 0 rfl)).1) (fun hln16 => ?_)
          refine OPC (CALL 43 #[.slice a14 2 2] (some 46) ?_ [] [] _ rfl (RV (.string (bs (putNums ([q.kind, q.id]))))) (fun w hw => (congrArg (fun z : Nat => Spec Try.prog w [] 43 #[.slice a14 z 2] (RV (.string (bs (putNums ([q.kind, q.id])))))) hln16).mpr (sNums_c w ([q.kind, q.id]) a14 2 (hw.rdO 0 rfl) (by simp only [List.length_cons, List.length_append, List.length_nil]; omega))) (by rintro _ ⟨⟩; exact Nat.le_of_ble_eq_true rfl) ?_)
          · as_aux_lemma => kernel_rfl
          rintro ⟨⟩
          refine RUN0 1 [] [(2, .v (.string (bs (putNums ([q.kind, q.id])))))] ?_ rfl ?_
          · as_aux_lemma => kernel_rfl
          refine ENDOPS (NEXT (RET (FIN (.string (bs (putNums ([q.kind, q.id])))) ?_ () ?_ [] ?_)))
          · as_aux_lemma => kernel_rfl
          · simp_all [RV, reqBytes]
          · rfl

theorem iReqBytes_c (W : World) (q : Req) : Spec Try.prog W [] 17 #[.agg #[vi q.kind, vi q.id, vi q.cabin, vi q.from', vi q.size, vi q.tier]] (RV (.string (bs (reqBytes q)))) := by
  refine ENTER0 (N := 46) (vs := [.agg #[vi q.kind, vi q.id, vi q.cabin, vi q.from', vi q.size, vi q.tier]]) Try.func17 rfl rfl (Nat.le_of_ble_eq_true rfl) ?_
  refine SEQ (REGION [0, 1] rfl (RUN 2 [] [(1, .p 0 0)] [(25, [vi q.kind, vi q.id, vi q.cabin, vi q.from', vi q.size, vi q.tier])] ?_ rfl ?_))
  · as_aux_lemma => kernel_rfl
  refine ENDOPS (NEXT (SEQ (SEQ (REGION [0, 1, 2] rfl (RUN0 1 [1, 2] [(1, .p 0 0), (4, .v (.agg #[vi q.kind, vi q.id, vi q.cabin, vi q.from', vi q.size, vi q.tier]))] ?_ rfl ?_)))))
  · as_aux_lemma => kernel_rfl
  refine OPC (CALL 28 #[.agg #[vi q.kind, vi q.id, vi q.cabin, vi q.from', vi q.size, vi q.tier]] (some 5) ?_ [] [] _ rfl (RV (.bool (reqOk q))) (fun w hw => iReqOk_c w q) (by rintro _ ⟨⟩; exact Nat.le_of_ble_eq_true rfl) ?_)
  · as_aux_lemma => kernel_rfl
  rintro ⟨⟩
  refine RUN0 1 [] [(1, .p 0 0), (6, B (!(reqOk q)))] ?_ rfl ?_
  · as_aux_lemma => kernel_rfl
  refine ENDOPS (NEXT (IF (!(reqOk q)) ?_ (fun bh1 => ?_) (fun bh1 => ?_)))
  · as_aux_lemma => kernel_rfl
  · -- !(reqOk q) = true
    have h1 := bh1
    have h1 := notT h1
    refine SEQ (REGION [0] rfl (RUN0 1 [] [(2, .v (.string (bs ([]))))] ?_ rfl ?_))
    · as_aux_lemma => kernel_rfl
    refine ENDOPS (NEXT (RET (PASS trivial (FIN (.string (bs ([]))) ?_ () ?_ [] ?_))))
    · as_aux_lemma => kernel_rfl
    · simp_all [RV, reqBytes]
    · rfl
  · -- !(reqOk q) = false
    have h1 := bh1
    have h1 := notF h1
    refine SKIP (NEXT (SEQ (REGION [0, 1, 2, 3] rfl (RUN0 2 [2, 3] [(1, .p 0 0), (8, I q.kind)] ?_ rfl ?_))))
    · as_aux_lemma => kernel_rfl
    refine OPC (BUILDS 39 1 #[(0, .tmp 8)] 9 39 ?_ (Nat.le_of_ble_eq_true rfl) 3 [vi q.kind] ?_ intL [q.kind] rfl (by simp only [maxLen]; omega) [] [] _ rfl (flatRep rfl) (fun a2 ha3 => ?_))
    · as_aux_lemma => kernel_rfl
    · as_aux_lemma => kernel_rfl
    refine RUN0 1 [] [(1, .p 0 0), (3, .v (.slice a2 1 1))] ?_ rfl ?_
    · as_aux_lemma => kernel_rfl
    refine ENDOPS (NEXT (SEQ (SEQ (REGION [0, 1] rfl (RUN0 2 [] [(1, .p 0 0), (3, .v (.slice a2 1 1)), (11, I q.kind)] ?_ rfl ?_)))))
    · as_aux_lemma => kernel_rfl
    refine ENDOPS (NEXT (BLOCK (SEQ (REGION [0, 1] rfl (RUN0 2 [] [(1, .p 0 0), (3, .v (.slice a2 1 1)), (11, I q.kind), (17, B (q.kind == 1))] ?_ rfl ?_)))))
    · as_aux_lemma => kernel_rfl
    refine ENDOPS (NEXT (IF (q.kind == 1) ?_ (fun bh4 => ?_) (fun bh4 => ?_)))
    · as_aux_lemma => kernel_rfl
    · -- q.kind == 1 = true
      have h4 := bh4
      have h4 := eq_of_beq h4
      refine REGION [0, 1, 2, 3, 4, 5, 6, 7, 8, 9, 10, 11, 12, 13, 14] rfl (RUN0 12 [12, 13, 14] [(19, .v (.slice a2 1 1)), (21, I q.id), (23, I q.cabin), (26, I (wr (q.from' + 1))), (28, I q.size), (30, I q.tier)] ?_ rfl ?_)
      · as_aux_lemma => kernel_rfl
      refine OPC (BUILDS 39 5 #[(0, .tmp 21), (1, .tmp 23), (2, .tmp 26), (3, .tmp 28), (4, .tmp 30)] 31 39 ?_ (Nat.le_of_ble_eq_true rfl) 3 [vi q.id, vi q.cabin, vi (wr (q.from' + 1)), vi q.size, vi q.tier] ?_ intL [q.id, q.cabin, wr (q.from' + 1), q.size, q.tier] rfl (by simp only [maxLen]; omega) [] [] _ rfl (flatRep rfl) (fun a5 ha6 => ?_))
      · as_aux_lemma => kernel_rfl
      · as_aux_lemma => kernel_rfl
      refine OPC (APPENDO 39 (.tmp 19) (.tmp 31) 32 39 ?_ (Nat.le_of_ble_eq_true rfl) (.slice a2 1 1) a5 5 5 ?_ ?_ ha6 3 ?_ intL (vi 0) 8 ?_ rfl (by decide) 0 0 ([q.kind]) ([q.id, q.cabin, wr (q.from' + 1), q.size, q.tier]) _ rfl rfl (by first | omega | (simp only [List.length_append, List.length_cons, List.length_nil, List.length_take, List.length_drop] at *; omega)) (by simp only [maxLen]; first | omega | (simp only [List.length_append, List.length_cons, List.length_nil, List.length_take, List.length_drop] at *; omega)) (fun a7 c8 hn9 => ?_))
      · as_aux_lemma => kernel_rfl
      · as_aux_lemma => kernel_rfl
      · as_aux_lemma => kernel_rfl
      · as_aux_lemma => kernel_rfl
      · as_aux_lemma => kernel_rfl
      refine RUN0 1 [] [(3, .v (.slice a7 ((([q.kind]) ++ ([q.id, q.cabin, wr (q.from' + 1), q.size, q.tier])).length) c8))] ?_ rfl ?_
      · as_aux_lemma => kernel_rfl
      refine ENDOPS (OUTN (NEXT (SEQ (REGION [0, 1, 2] rfl (RUN0 1 [1, 2] [(44, .v (.slice a7 ((([q.kind]) ++ ([q.id, q.cabin, wr (q.from' + 1), q.size, q.tier])).length) c8))] ?_ rfl ?_)))))
      · as_aux_lemma => kernel_rfl
      refine OPC (CALL 29 #[.slice a7 ((([q.kind]) ++ ([q.id, q.cabin, wr (q.from' + 1), q.size, q.tier])).length) c8] (some 45) ?_ [] [] _ rfl (RV (.string (bs (putNums (([q.kind]) ++ ([q.id, q.cabin, wr (q.from' + 1), q.size, q.tier])))))) (fun w hw => iNums_c w (([q.kind]) ++ ([q.id, q.cabin, wr (q.from' + 1), q.size, q.tier])) a7 c8 (hw.rdO 0 rfl) (by simp only [List.length_cons, List.length_append, List.length_nil]; omega)) (by rintro _ ⟨⟩; exact Nat.le_of_ble_eq_true rfl) ?_)
      · as_aux_lemma => kernel_rfl
      rintro ⟨⟩
      refine RUN0 1 [] [(2, .v (.string (bs (putNums (([q.kind]) ++ ([q.id, q.cabin, wr (q.from' + 1), q.size, q.tier]))))))] ?_ rfl ?_
      · as_aux_lemma => kernel_rfl
      refine ENDOPS (NEXT (RET (FIN (.string (bs (putNums (([q.kind]) ++ ([q.id, q.cabin, wr (q.from' + 1), q.size, q.tier]))))) ?_ () ?_ [] ?_)))
      · as_aux_lemma => kernel_rfl
      · simp_all [RV, reqBytes]
      · rfl
    · -- q.kind == 1 = false
      have h4 := bh4
      have h4 := ne_of_beq_false h4
      refine SEQ (REGION [0, 1] rfl (RUN0 2 [] [(1, .p 0 0), (3, .v (.slice a2 1 1)), (11, I q.kind), (33, B (q.kind == 3))] ?_ rfl ?_))
      · as_aux_lemma => kernel_rfl
      refine ENDOPS (NEXT (IF (q.kind == 3) ?_ (fun bh10 => ?_) (fun bh10 => ?_)))
      · as_aux_lemma => kernel_rfl
      · -- q.kind == 3 = true
        have h10 := bh10
        have h10 := eq_of_beq h10
        refine REGION [0, 1, 2, 3, 4, 5, 6, 7] rfl (RUN0 5 [5, 6, 7] [(35, .v (.slice a2 1 1)), (37, I q.cabin), (39, I q.size)] ?_ rfl ?_)
        · as_aux_lemma => kernel_rfl
        refine OPC (BUILDS 39 2 #[(0, .tmp 37), (1, .tmp 39)] 40 39 ?_ (Nat.le_of_ble_eq_true rfl) 3 [vi q.cabin, vi q.size] ?_ intL [q.cabin, q.size] rfl (by simp only [maxLen]; omega) [] [] _ rfl (flatRep rfl) (fun a11 ha12 => ?_))
        · as_aux_lemma => kernel_rfl
        · as_aux_lemma => kernel_rfl
        refine OPC (APPENDO 39 (.tmp 35) (.tmp 40) 41 39 ?_ (Nat.le_of_ble_eq_true rfl) (.slice a2 1 1) a11 2 2 ?_ ?_ ha12 3 ?_ intL (vi 0) 8 ?_ rfl (by decide) 0 0 ([q.kind]) ([q.cabin, q.size]) _ rfl rfl (by first | omega | (simp only [List.length_append, List.length_cons, List.length_nil, List.length_take, List.length_drop] at *; omega)) (by simp only [maxLen]; first | omega | (simp only [List.length_append, List.length_cons, List.length_nil, List.length_take, List.length_drop] at *; omega)) (fun a13 c14 hn15 => ?_))
        · as_aux_lemma => kernel_rfl
        · as_aux_lemma => kernel_rfl
        · as_aux_lemma => kernel_rfl
        · as_aux_lemma => kernel_rfl
        · as_aux_lemma => kernel_rfl
        refine RUN0 1 [] [(3, .v (.slice a13 ((([q.kind]) ++ ([q.cabin, q.size])).length) c14))] ?_ rfl ?_
        · as_aux_lemma => kernel_rfl
        refine ENDOPS (OUTN (NEXT (SEQ (REGION [0, 1, 2] rfl (RUN0 1 [1, 2] [(44, .v (.slice a13 ((([q.kind]) ++ ([q.cabin, q.size])).length) c14))] ?_ rfl ?_)))))
        · as_aux_lemma => kernel_rfl
        refine OPC (CALL 29 #[.slice a13 ((([q.kind]) ++ ([q.cabin, q.size])).length) c14] (some 45) ?_ [] [] _ rfl (RV (.string (bs (putNums (([q.kind]) ++ ([q.cabin, q.size])))))) (fun w hw => iNums_c w (([q.kind]) ++ ([q.cabin, q.size])) a13 c14 (hw.rdO 0 rfl) (by simp only [List.length_cons, List.length_append, List.length_nil]; omega)) (by rintro _ ⟨⟩; exact Nat.le_of_ble_eq_true rfl) ?_)
        · as_aux_lemma => kernel_rfl
        rintro ⟨⟩
        refine RUN0 1 [] [(2, .v (.string (bs (putNums (([q.kind]) ++ ([q.cabin, q.size]))))))] ?_ rfl ?_
        · as_aux_lemma => kernel_rfl
        refine ENDOPS (NEXT (RET (FIN (.string (bs (putNums (([q.kind]) ++ ([q.cabin, q.size]))))) ?_ () ?_ [] ?_)))
        · as_aux_lemma => kernel_rfl
        · simp_all [RV, reqBytes]
        · rfl
      · -- q.kind == 3 = false
        have h10 := bh10
        have h10 := ne_of_beq_false h10
        refine SEQ (REGION [0, 1] rfl (RUN0 2 [] [(1, .p 0 0), (3, .v (.slice a2 1 1)), (42, B (q.kind == 6))] ?_ rfl ?_))
        · as_aux_lemma => kernel_rfl
        refine ENDOPS (NEXT (IF (q.kind == 6) ?_ (fun bh16 => ?_) (fun bh16 => ?_)))
        · as_aux_lemma => kernel_rfl
        · -- q.kind == 6 = true
          have h16 := bh16
          have h16 := eq_of_beq h16
          refine SKIP (OUTN (NEXT (SEQ (REGION [0, 1, 2] rfl (RUN0 1 [1, 2] [(44, .v (.slice a2 1 1))] ?_ rfl ?_)))))
          · as_aux_lemma => kernel_rfl
          refine FACT (1 = ([q.kind]).length) (fun w hw => (SlO.lenE (hw.own 0 rfl)).1) (fun hln17 => ?_)
          refine OPC (CALL 29 #[.slice a2 1 1] (some 45) ?_ [] [] _ rfl (RV (.string (bs (putNums ([q.kind]))))) (fun w hw => (congrArg (fun z : Nat => Spec Try.prog w [] 29 #[.slice a2 z 1] (RV (.string (bs (putNums ([q.kind])))))) hln17).mpr (iNums_c w ([q.kind]) a2 1 (hw.rdO 0 rfl) (by simp only [List.length_cons, List.length_append, List.length_nil]; omega))) (by rintro _ ⟨⟩; exact Nat.le_of_ble_eq_true rfl) ?_)
          · as_aux_lemma => kernel_rfl
          rintro ⟨⟩
          refine RUN0 1 [] [(2, .v (.string (bs (putNums ([q.kind])))))] ?_ rfl ?_
          · as_aux_lemma => kernel_rfl
          refine ENDOPS (NEXT (RET (FIN (.string (bs (putNums ([q.kind])))) ?_ () ?_ [] ?_)))
          · as_aux_lemma => kernel_rfl
          · simp_all [RV, reqBytes]
          · rfl
        · -- q.kind == 6 = false
          have h16 := bh16
          have h16 := ne_of_beq_false h16
          refine REGION [0, 1, 2, 3, 4, 5] rfl (RUN0 3 [3, 4, 5] [(12, .v (.slice a2 1 1)), (14, I q.id)] ?_ rfl ?_)
          · as_aux_lemma => kernel_rfl
          refine OPC (BUILDS 39 1 #[(0, .tmp 14)] 15 39 ?_ (Nat.le_of_ble_eq_true rfl) 3 [vi q.id] ?_ intL [q.id] rfl (by simp only [maxLen]; omega) [] [] _ rfl (flatRep rfl) (fun a18 ha19 => ?_))
          · as_aux_lemma => kernel_rfl
          · as_aux_lemma => kernel_rfl
          refine OPC (APPENDO 39 (.tmp 12) (.tmp 15) 16 39 ?_ (Nat.le_of_ble_eq_true rfl) (.slice a2 1 1) a18 1 1 ?_ ?_ ha19 3 ?_ intL (vi 0) 8 ?_ rfl (by decide) 0 0 ([q.kind]) ([q.id]) _ rfl rfl (by first | omega | (simp only [List.length_append, List.length_cons, List.length_nil, List.length_take, List.length_drop] at *; omega)) (by simp only [maxLen]; first | omega | (simp only [List.length_append, List.length_cons, List.length_nil, List.length_take, List.length_drop] at *; omega)) (fun a20 c21 hn22 => ?_))
          · as_aux_lemma => kernel_rfl
          · as_aux_lemma => kernel_rfl
          · as_aux_lemma => kernel_rfl
          · as_aux_lemma => kernel_rfl
          · as_aux_lemma => kernel_rfl
          refine RUN0 1 [] [(3, .v (.slice a20 ((([q.kind]) ++ ([q.id])).length) c21))] ?_ rfl ?_
          · as_aux_lemma => kernel_rfl
          refine ENDOPS (OUTN (NEXT (SEQ (REGION [0, 1, 2] rfl (RUN0 1 [1, 2] [(44, .v (.slice a20 ((([q.kind]) ++ ([q.id])).length) c21))] ?_ rfl ?_)))))
          · as_aux_lemma => kernel_rfl
          refine OPC (CALL 29 #[.slice a20 ((([q.kind]) ++ ([q.id])).length) c21] (some 45) ?_ [] [] _ rfl (RV (.string (bs (putNums (([q.kind]) ++ ([q.id])))))) (fun w hw => iNums_c w (([q.kind]) ++ ([q.id])) a20 c21 (hw.rdO 0 rfl) (by simp only [List.length_cons, List.length_append, List.length_nil]; omega)) (by rintro _ ⟨⟩; exact Nat.le_of_ble_eq_true rfl) ?_)
          · as_aux_lemma => kernel_rfl
          rintro ⟨⟩
          refine RUN0 1 [] [(2, .v (.string (bs (putNums (([q.kind]) ++ ([q.id]))))))] ?_ rfl ?_
          · as_aux_lemma => kernel_rfl
          refine ENDOPS (NEXT (RET (FIN (.string (bs (putNums (([q.kind]) ++ ([q.id]))))) ?_ () ?_ [] ?_)))
          · as_aux_lemma => kernel_rfl
          · simp_all [RV, reqBytes]
          · rfl

theorem sNoteOf_c (W : World) (seq : Int) (q : Req) : Spec Try.prog W [] 14 #[vi seq, .agg #[vi q.kind, vi q.id, vi q.cabin, vi q.from', vi q.size, vi q.tier]] (RV (.string (bs (noteOf seq q)))) := by
  refine ENTER0 (N := 13) (vs := [vi seq, .agg #[vi q.kind, vi q.id, vi q.cabin, vi q.from', vi q.size, vi q.tier]]) Try.func14 rfl rfl (Nat.le_of_ble_eq_true rfl) ?_
  refine SEQ (REGION [0, 1] rfl (RUN 2 [] [(0, I seq), (3, .p 0 0)] [(25, [vi q.kind, vi q.id, vi q.cabin, vi q.from', vi q.size, vi q.tier])] ?_ rfl ?_))
  · as_aux_lemma => kernel_rfl
  refine ENDOPS (NEXT (SEQ (REGION [0, 1, 2] rfl (RUN0 1 [1, 2] [(0, I seq), (6, .v (.agg #[vi q.kind, vi q.id, vi q.cabin, vi q.from', vi q.size, vi q.tier]))] ?_ rfl ?_))))
  · as_aux_lemma => kernel_rfl
  refine OPC (CALL 24 #[.agg #[vi q.kind, vi q.id, vi q.cabin, vi q.from', vi q.size, vi q.tier]] (some 7) ?_ [] [] _ rfl (RV (.string (bs (reqBytes q)))) (fun w hw => sReqBytes_c w q) (by rintro _ ⟨⟩; exact Nat.le_of_ble_eq_true rfl) ?_)
  · as_aux_lemma => kernel_rfl
  rintro ⟨⟩
  have hr1 := reqBytes_len q
  refine RUN0 1 [] [(0, I seq), (5, .v (.string (bs (reqBytes q))))] ?_ rfl ?_
  · as_aux_lemma => kernel_rfl
  refine ENDOPS (NEXT (SEQ (SEQ (REGION [0, 1] rfl (RUN0 1 [1] [(0, I seq), (5, .v (.string (bs (reqBytes q)))), (8, .v (.string (bs (reqBytes q))))] ?_ rfl ?_)))))
  · as_aux_lemma => kernel_rfl
  refine OPC (RUNV (.binOp .eql 9 (.tmp 8) (.const (.string (bs ([])))) 9) 9 4 ?_ (Nat.le_of_ble_eq_true rfl) (.bool ((reqBytes q) == ([]))) (runs_seql (a := reqBytes q) (b := []) ?_ ?_) ?_)
  · as_aux_lemma => kernel_rfl
  · as_aux_lemma => kernel_rfl
  · as_aux_lemma => kernel_rfl
  refine ENDOPS (NEXT (IF ((reqBytes q) == ([])) ?_ (fun bh2 => ?_) (fun bh2 => ?_)))
  · as_aux_lemma => kernel_rfl
  · -- (reqBytes q) == ([]) = true
    have h2 := bh2
    have h2 := eq_of_beq h2
    refine SEQ (REGION [0] rfl (RUN0 1 [] [(4, .v (.string (bs ([]))))] ?_ rfl ?_))
    · as_aux_lemma => kernel_rfl
    refine ENDOPS (NEXT (RET (PASS trivial (FIN (.string (bs ([]))) ?_ () ?_ [] ?_))))
    · as_aux_lemma => kernel_rfl
    · simp_all [RV, noteOf, frameOf_nil]
    · rfl
  · -- (reqBytes q) == ([]) = false
    have h2 := bh2
    have h2 := ne_of_beq_false h2
    refine SKIP (NEXT (SEQ (REGION [0, 1, 2, 3] rfl (RUN0 2 [2, 3] [(10, I seq), (11, .v (.string (bs (reqBytes q))))] ?_ rfl ?_))))
    · as_aux_lemma => kernel_rfl
    refine OPC (CALL 25 #[vi seq, .string (bs (reqBytes q))] (some 12) ?_ [] [] _ rfl (RV (.string (bs (frameOf seq (reqBytes q))))) (fun w hw => sFrameOf_c w seq (reqBytes q) (by first | omega | (simp only [List.length_append, List.length_cons, List.length_nil, List.length_take, List.length_drop] at *; omega))) (by rintro _ ⟨⟩; exact Nat.le_of_ble_eq_true rfl) ?_)
    · as_aux_lemma => kernel_rfl
    rintro ⟨⟩
    have hr3 := frameOf_len seq (reqBytes q)
    refine RUN0 1 [] [(4, .v (.string (bs (frameOf seq (reqBytes q)))))] ?_ rfl ?_
    · as_aux_lemma => kernel_rfl
    refine ENDOPS (NEXT (RET (FIN (.string (bs (frameOf seq (reqBytes q)))) ?_ () ?_ [] ?_)))
    · as_aux_lemma => kernel_rfl
    · simp_all [RV, noteOf, frameOf_nil]
    · rfl

theorem iNoteOf_c (W : World) (seq : Int) (q : Req) : Spec Try.prog W [] 10 #[vi seq, .agg #[vi q.kind, vi q.id, vi q.cabin, vi q.from', vi q.size, vi q.tier]] (RV (.string (bs (noteOf seq q)))) := by
  refine ENTER0 (N := 9) (vs := [vi seq, .agg #[vi q.kind, vi q.id, vi q.cabin, vi q.from', vi q.size, vi q.tier]]) Try.func10 rfl rfl (Nat.le_of_ble_eq_true rfl) ?_
  refine SEQ (REGION [0, 1] rfl (RUN 2 [] [(0, I seq), (3, .p 0 0)] [(25, [vi q.kind, vi q.id, vi q.cabin, vi q.from', vi q.size, vi q.tier])] ?_ rfl ?_))
  · as_aux_lemma => kernel_rfl
  refine ENDOPS (NEXT (SEQ (REGION [0, 1, 2, 3, 4] rfl (RUN0 2 [2, 3, 4] [(5, I seq), (6, .v (.agg #[vi q.kind, vi q.id, vi q.cabin, vi q.from', vi q.size, vi q.tier]))] ?_ rfl ?_))))
  · as_aux_lemma => kernel_rfl
  refine OPC (CALL 17 #[.agg #[vi q.kind, vi q.id, vi q.cabin, vi q.from', vi q.size, vi q.tier]] (some 7) ?_ [] [] _ rfl (RV (.string (bs (reqBytes q)))) (fun w hw => iReqBytes_c w q) (by rintro _ ⟨⟩; exact Nat.le_of_ble_eq_true rfl) ?_)
  · as_aux_lemma => kernel_rfl
  rintro ⟨⟩
  have hr1 := reqBytes_len q
  refine OPC (CALL 16 #[vi seq, .string (bs (reqBytes q))] (some 8) ?_ [] [] _ rfl (RV (.string (bs (frameOf seq (reqBytes q))))) (fun w hw => iFrameOf_c w seq (reqBytes q) (by first | omega | (simp only [List.length_append, List.length_cons, List.length_nil, List.length_take, List.length_drop] at *; omega))) (by rintro _ ⟨⟩; exact Nat.le_of_ble_eq_true rfl) ?_)
  · as_aux_lemma => kernel_rfl
  rintro ⟨⟩
  have hr2 := frameOf_len seq (reqBytes q)
  refine RUN0 1 [] [(4, .v (.string (bs (frameOf seq (reqBytes q)))))] ?_ rfl ?_
  · as_aux_lemma => kernel_rfl
  refine ENDOPS (NEXT (RET (FIN (.string (bs (frameOf seq (reqBytes q)))) ?_ () ?_ [] ?_)))
  · as_aux_lemma => kernel_rfl
  · simp_all [RV, noteOf]
  · rfl

theorem sNoteLen_c (W : World) (q : Req) : Spec Try.prog W [] 8 #[.agg #[vi q.kind, vi q.id, vi q.cabin, vi q.from', vi q.size, vi q.tier]] (RV (vi (noteLen q))) := by
  refine ENTER0 (N := 6) (vs := [.agg #[vi q.kind, vi q.id, vi q.cabin, vi q.from', vi q.size, vi q.tier]]) Try.func8 rfl rfl (Nat.le_of_ble_eq_true rfl) ?_
  refine SEQ (REGION [0, 1] rfl (RUN 2 [] [(1, .p 0 0)] [(25, [vi q.kind, vi q.id, vi q.cabin, vi q.from', vi q.size, vi q.tier])] ?_ rfl ?_))
  · as_aux_lemma => kernel_rfl
  refine ENDOPS (NEXT (SEQ (REGION [0, 1, 2, 3] rfl (RUN0 1 [1, 2, 3] [(3, .v (.agg #[vi q.kind, vi q.id, vi q.cabin, vi q.from', vi q.size, vi q.tier]))] ?_ rfl ?_))))
  · as_aux_lemma => kernel_rfl
  refine OPC (CALL 14 #[vi 1000000, .agg #[vi q.kind, vi q.id, vi q.cabin, vi q.from', vi q.size, vi q.tier]] (some 4) ?_ [] [] _ rfl (RV (.string (bs (noteOf 1000000 q)))) (fun w hw => sNoteOf_c w 1000000 q) (by rintro _ ⟨⟩; exact Nat.le_of_ble_eq_true rfl) ?_)
  · as_aux_lemma => kernel_rfl
  rintro ⟨⟩
  refine RUN0 2 [] [(2, I (((noteOf 1000000 q).length : Nat) : Int))] ?_ rfl ?_
  · as_aux_lemma => kernel_rfl
  refine ENDOPS (NEXT (RET (FIN (vi (((noteOf 1000000 q).length : Nat) : Int)) ?_ () ?_ [] ?_)))
  · as_aux_lemma => kernel_rfl
  · simp [RV, noteLen]
  · rfl

theorem iNoteLen_c (W : World) (q : Req) : Spec Try.prog W [] 7 #[.agg #[vi q.kind, vi q.id, vi q.cabin, vi q.from', vi q.size, vi q.tier]] (RV (vi (noteLen q))) := by
  refine ENTER0 (N := 6) (vs := [.agg #[vi q.kind, vi q.id, vi q.cabin, vi q.from', vi q.size, vi q.tier]]) Try.func7 rfl rfl (Nat.le_of_ble_eq_true rfl) ?_
  refine SEQ (REGION [0, 1] rfl (RUN 2 [] [(1, .p 0 0)] [(25, [vi q.kind, vi q.id, vi q.cabin, vi q.from', vi q.size, vi q.tier])] ?_ rfl ?_))
  · as_aux_lemma => kernel_rfl
  refine ENDOPS (NEXT (SEQ (REGION [0, 1, 2, 3] rfl (RUN0 1 [1, 2, 3] [(3, .v (.agg #[vi q.kind, vi q.id, vi q.cabin, vi q.from', vi q.size, vi q.tier]))] ?_ rfl ?_))))
  · as_aux_lemma => kernel_rfl
  refine OPC (CALL 10 #[vi 1000000, .agg #[vi q.kind, vi q.id, vi q.cabin, vi q.from', vi q.size, vi q.tier]] (some 4) ?_ [] [] _ rfl (RV (.string (bs (noteOf 1000000 q)))) (fun w hw => iNoteOf_c w 1000000 q) (by rintro _ ⟨⟩; exact Nat.le_of_ble_eq_true rfl) ?_)
  · as_aux_lemma => kernel_rfl
  rintro ⟨⟩
  have hr1 := noteOf_le 1000000 q
  refine RUN0 2 [] [(2, I (((noteOf 1000000 q).length : Nat) : Int))] ?_ rfl ?_
  · as_aux_lemma => kernel_rfl
  refine ENDOPS (NEXT (RET (FIN (vi (((noteOf 1000000 q).length : Nat) : Int)) ?_ () ?_ [] ?_)))
  · as_aux_lemma => kernel_rfl
  · simp [RV, noteLen]
  · rfl

theorem iLogMost_c (W : World) (n : Int) : Spec Try.prog W [] 9 #[vi n] (RV (vi (logMost n))) := by
  refine ENTER0 (N := 8) (vs := [vi n]) Try.func9 rfl rfl (Nat.le_of_ble_eq_true rfl) ?_
  refine SEQ (REGION [0] rfl (RUN0 1 [] [(0, I n)] ?_ rfl ?_))
  · as_aux_lemma => kernel_rfl
  refine ENDOPS (NEXT (SEQ (SEQ (REGION [0, 1, 2] rfl (RUN0 1 [1, 2] [(0, I n), (3, I n)] ?_ rfl ?_)))))
  · as_aux_lemma => kernel_rfl
  refine OPC (CALL 15 #[vi n, vi 0, vi 1000000] (some 4) ?_ [] [] _ rfl (RV (.bool (inB n 0 1000000))) (fun w hw => within_c w n 0 1000000) (by rintro _ ⟨⟩; exact Nat.le_of_ble_eq_true rfl) ?_)
  · as_aux_lemma => kernel_rfl
  rintro ⟨⟩
  refine RUN0 1 [] [(0, I n), (5, B (!(inB n 0 1000000)))] ?_ rfl ?_
  · as_aux_lemma => kernel_rfl
  refine ENDOPS (NEXT (IF (!(inB n 0 1000000)) ?_ (fun bh1 => ?_) (fun bh1 => ?_)))
  · as_aux_lemma => kernel_rfl
  · -- !(inB n 0 1000000) = true
    have h1 := bh1
    have h1 := notT h1
    refine SEQ (REGION [0] rfl (RUN0 1 [] [(2, I 0)] ?_ rfl ?_))
    · as_aux_lemma => kernel_rfl
    refine ENDOPS (NEXT (RET (PASS trivial (FIN (vi 0) ?_ () ?_ [] ?_))))
    · as_aux_lemma => kernel_rfl
    · simp [RV, logMost, *]
    · rfl
  · -- !(inB n 0 1000000) = false
    have h1 := bh1
    have h1 := notF h1
    refine SKIP (NEXT (SEQ (REGION [0, 1, 2] rfl (RUN0 3 [] [(2, I (wr (19 * n)))] ?_ rfl ?_))))
    · as_aux_lemma => kernel_rfl
    refine ENDOPS (NEXT (RET (FIN (vi (wr (19 * n))) ?_ () ?_ [] ?_)))
    · as_aux_lemma => kernel_rfl
    · simp [RV, logMost, *]
    · rfl

end SX
end Go.Proofs.Ytpdijcbgdalphaa
