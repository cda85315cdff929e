/- Walks, printed by program. -/
import Derived.Test.YtpdijcbgdalphaaDoorV1
namespace Go.Proofs.YtpdijcbgdalphaaDoor
namespace SX
open Go Go.RowKit
set_option linter.unusedVariables false
set_option linter.unusedSimpArgs false
set_option maxRecDepth 10000
theorem l12Field_c (W : World) (x : Int) : Spec Tryd.prog W [] 62 #[vi x] (RV (.bool (usedB x))) := by
  refine ENTER0 (N := 5) (vs := [vi x]) Tryd.func62 rfl rfl (Nat.le_of_ble_eq_true rfl) ?_
  refine SEQ (REGION [0] rfl (RUN0 1 [] [(0, I x)] ?_ rfl ?_))
  · as_aux_lemma => kernel_rfl
  refine ENDOPS (NEXT (SEQ (REGION [0, 1, 2] rfl (RUN0 1 [1, 2] [(3, I x)] ?_ rfl ?_))))
  · as_aux_lemma => kernel_rfl
  refine OPC (CALL 44 #[vi x, vi 0, vi 9999] (some 4) ?_ [] [] _ rfl (RV (.bool (inB x 0 9999))) (fun w hw => l1In_c w x 0 9999) (by rintro _ ⟨⟩; exact Nat.le_of_ble_eq_true rfl) ?_)
  · as_aux_lemma => kernel_rfl
  rintro ⟨⟩
  refine RUN0 1 [] [(2, B (inB x 0 9999))] ?_ rfl ?_
  · as_aux_lemma => kernel_rfl
  refine ENDOPS (NEXT (RET (FIN (.bool (inB x 0 9999)) ?_ () ?_ [] ?_)))
  · as_aux_lemma => kernel_rfl
  · simp [RV, usedB]
  · rfl

theorem sReqOk_c (W : World) (q : Req) : Spec Tryd.prog W [] 52 #[.agg #[vi q.kind, vi q.id, vi q.cabin, vi q.from', vi q.size, vi q.tier]] (RV (.bool (reqOk q))) := by
  refine ENTER0 (N := 75) (vs := [.agg #[vi q.kind, vi q.id, vi q.cabin, vi q.from', vi q.size, vi q.tier]]) Tryd.func52 rfl rfl (Nat.le_of_ble_eq_true rfl) ?_
  refine SEQ (REGION [0, 1] rfl (RUN 2 [] [(1, .p 0 0)] [(47, [vi q.kind, vi q.id, vi q.cabin, vi q.from', vi q.size, vi q.tier])] ?_ rfl ?_))
  · as_aux_lemma => kernel_rfl
  refine ENDOPS (NEXT (SEQ (SEQ (REGION [0, 1] rfl (RUN0 2 [] [(1, .p 0 0), (4, I q.kind)] ?_ rfl ?_)))))
  · as_aux_lemma => kernel_rfl
  refine ENDOPS (NEXT (BLOCK (SEQ (REGION [0, 1] rfl (RUN0 2 [] [(1, .p 0 0), (4, I q.kind), (5, B (q.kind == 1))] ?_ rfl ?_)))))
  · as_aux_lemma => kernel_rfl
  refine ENDOPS (NEXT (IF (q.kind == 1) ?_ (fun bh1 => ?_) (fun bh1 => ?_)))
  · as_aux_lemma => kernel_rfl
  · -- q.kind == 1 = true
    have h1 := bh1
    have h1 := eq_of_beq h1
    refine SEQ (REGION [0, 1, 2, 3, 4, 5, 6, 7, 8, 9, 10, 11, 12, 13, 14, 15, 16, 17, 18, 19, 20, 21, 22, 23] rfl (RUN0 2 [2, 3, 4, 5, 6, 7, 8, 9, 10, 11, 12, 13, 14, 15, 16, 17, 18, 19, 20, 21, 22, 23] [(1, .p 0 0), (8, I q.id)] ?_ rfl ?_))
    · as_aux_lemma => kernel_rfl
    refine OPC (CALL 62 #[vi q.id] (some 9) ?_ [] [] _ rfl (RV (.bool (usedB q.id))) (fun w hw => l12Field_c w q.id) (by rintro _ ⟨⟩; exact Nat.le_of_ble_eq_true rfl) ?_)
    · as_aux_lemma => kernel_rfl
    rintro ⟨⟩
    refine RUN0 1 [4, 5, 6, 7, 8, 9, 10, 11, 12, 13, 14, 15, 16, 17, 18, 19, 20, 21, 22, 23] [(1, .p 0 0), (10, B (usedB q.id))] ?_ rfl ?_
    · as_aux_lemma => kernel_rfl
    refine SPLIT (d := 10) (usedB q.id) ?_ (fun bh2 => ?_) (fun bh2 => ?_)
    · as_aux_lemma => kernel_rfl
    · -- usedB q.id = true
      have h2 := bh2
      refine RUN0 2 [6, 7, 8, 9, 10, 11, 12, 13, 14, 15, 16, 17, 18, 19, 20, 21, 22, 23] [(1, .p 0 0), (10, B true), (12, I q.cabin)] ?_ rfl ?_
      · as_aux_lemma => kernel_rfl
      refine OPC (CALL 62 #[vi q.cabin] (some 13) ?_ [] [] _ rfl (RV (.bool (usedB q.cabin))) (fun w hw => l12Field_c w q.cabin) (by rintro _ ⟨⟩; exact Nat.le_of_ble_eq_true rfl) ?_)
      · as_aux_lemma => kernel_rfl
      rintro ⟨⟩
      refine RUN0 2 [9, 10, 11, 12, 13, 14, 15, 16, 17, 18, 19, 20, 21, 22, 23] [(1, .p 0 0), (15, B (usedB q.cabin))] ?_ rfl ?_
      · as_aux_lemma => kernel_rfl
      refine SPLIT (d := 15) (usedB q.cabin) ?_ (fun bh3 => ?_) (fun bh3 => ?_)
      · as_aux_lemma => kernel_rfl
      · -- usedB q.cabin = true
        have h3 := bh3
        refine RUN0 2 [11, 12, 13, 14, 15, 16, 17, 18, 19, 20, 21, 22, 23] [(1, .p 0 0), (15, B true), (17, I q.from')] ?_ rfl ?_
        · as_aux_lemma => kernel_rfl
        refine OPC (CALL 44 #[vi q.from', vi (-1), vi 9999] (some 18) ?_ [] [] _ rfl (RV (.bool (inB q.from' (-1) 9999))) (fun w hw => l1In_c w q.from' (-1) 9999) (by rintro _ ⟨⟩; exact Nat.le_of_ble_eq_true rfl) ?_)
        · as_aux_lemma => kernel_rfl
        rintro ⟨⟩
        refine RUN0 2 [14, 15, 16, 17, 18, 19, 20, 21, 22, 23] [(1, .p 0 0), (20, B (inB q.from' (-1) 9999))] ?_ rfl ?_
        · as_aux_lemma => kernel_rfl
        refine SPLIT (d := 20) (inB q.from' (-1) 9999) ?_ (fun bh4 => ?_) (fun bh4 => ?_)
        · as_aux_lemma => kernel_rfl
        · -- inB q.from' (-1) 9999 = true
          have h4 := bh4
          refine RUN0 2 [16, 17, 18, 19, 20, 21, 22, 23] [(1, .p 0 0), (20, B true), (22, I q.size)] ?_ rfl ?_
          · as_aux_lemma => kernel_rfl
          refine OPC (CALL 62 #[vi q.size] (some 23) ?_ [] [] _ rfl (RV (.bool (usedB q.size))) (fun w hw => l12Field_c w q.size) (by rintro _ ⟨⟩; exact Nat.le_of_ble_eq_true rfl) ?_)
          · as_aux_lemma => kernel_rfl
          rintro ⟨⟩
          refine RUN0 2 [19, 20, 21, 22, 23] [(1, .p 0 0), (25, B (usedB q.size))] ?_ rfl ?_
          · as_aux_lemma => kernel_rfl
          refine SPLIT (d := 25) (usedB q.size) ?_ (fun bh5 => ?_) (fun bh5 => ?_)
          · as_aux_lemma => kernel_rfl
          · -- usedB q.size = true
            have h5 := bh5
            refine RUN0 2 [21, 22, 23] [(25, B true), (27, I q.tier)] ?_ rfl ?_
            · as_aux_lemma => kernel_rfl
            refine OPC (CALL 62 #[vi q.tier] (some 28) ?_ [] [] _ rfl (RV (.bool (usedB q.tier))) (fun w hw => l12Field_c w q.tier) (by rintro _ ⟨⟩; exact Nat.le_of_ble_eq_true rfl) ?_)
            · as_aux_lemma => kernel_rfl
            rintro ⟨⟩
            refine RUN0 2 [] [(2, B (usedB q.tier))] ?_ rfl ?_
            · as_aux_lemma => kernel_rfl
            refine ENDOPS (NEXT (RET (OUTR (PASS trivial (FIN (.bool (usedB q.tier)) ?_ () ?_ [] ?_)))))
            · as_aux_lemma => kernel_rfl
            · simp [RV, reqOk, reqEq, *]
            · rfl
          · -- usedB q.size = false
            have h5 := bh5
            refine RUN0 5 [] [(2, B false)] ?_ rfl ?_
            · as_aux_lemma => kernel_rfl
            refine ENDOPS (NEXT (RET (OUTR (PASS trivial (FIN (.bool false) ?_ () ?_ [] ?_)))))
            · as_aux_lemma => kernel_rfl
            · simp [RV, reqOk, reqEq, *]
            · rfl
        · -- inB q.from' (-1) 9999 = false
          have h4 := bh4
          refine RUN0 10 [] [(2, B false)] ?_ rfl ?_
          · as_aux_lemma => kernel_rfl
          refine ENDOPS (NEXT (RET (OUTR (PASS trivial (FIN (.bool false) ?_ () ?_ [] ?_)))))
          · as_aux_lemma => kernel_rfl
          · simp [RV, reqOk, reqEq, *]
          · rfl
      · -- usedB q.cabin = false
        have h3 := bh3
        refine RUN0 15 [] [(2, B false)] ?_ rfl ?_
        · as_aux_lemma => kernel_rfl
        refine ENDOPS (NEXT (RET (OUTR (PASS trivial (FIN (.bool false) ?_ () ?_ [] ?_)))))
        · as_aux_lemma => kernel_rfl
        · simp [RV, reqOk, reqEq, *]
        · rfl
    · -- usedB q.id = false
      have h2 := bh2
      refine RUN0 20 [] [(2, B false)] ?_ rfl ?_
      · as_aux_lemma => kernel_rfl
      refine ENDOPS (NEXT (RET (OUTR (PASS trivial (FIN (.bool false) ?_ () ?_ [] ?_)))))
      · as_aux_lemma => kernel_rfl
      · simp [RV, reqOk, reqEq, *]
      · rfl
  · -- q.kind == 1 = false
    have h1 := bh1
    have h1 := ne_of_beq_false h1
    refine SEQ (SEQ (REGION [0, 1] rfl (RUN0 2 [] [(1, .p 0 0), (4, I q.kind), (30, B (q.kind == 2))] ?_ rfl ?_)))
    · as_aux_lemma => kernel_rfl
    refine ENDOPS (NEXT (IF (q.kind == 2) ?_ (fun bh6 => ?_) (fun bh6 => ?_)))
    · as_aux_lemma => kernel_rfl
    · -- q.kind == 2 = true
      have h6 := bh6
      have h6 := eq_of_beq h6
      refine SKIP (NEXT (IF (q.kind == 2) ?_ (fun bh7 => ?_) (fun bh7 => ?_)))
      · as_aux_lemma => kernel_rfl
      · -- q.kind == 2 = true
        have h7 := bh7
        have h7 := eq_of_beq h7
        refine SEQ (REGION [0, 1, 2, 3, 4, 5, 6, 7, 8, 9, 10, 11, 12] rfl (RUN0 2 [2, 3, 4, 5, 6, 7, 8, 9, 10, 11, 12] [(1, .p 0 0), (36, I q.id)] ?_ rfl ?_))
        · as_aux_lemma => kernel_rfl
        refine OPC (CALL 62 #[vi q.id] (some 37) ?_ [] [] _ rfl (RV (.bool (usedB q.id))) (fun w hw => l12Field_c w q.id) (by rintro _ ⟨⟩; exact Nat.le_of_ble_eq_true rfl) ?_)
        · as_aux_lemma => kernel_rfl
        rintro ⟨⟩
        refine RUN0 1 [4, 5, 6, 7, 8, 9, 10, 11, 12] [(1, .p 0 0), (38, B (usedB q.id))] ?_ rfl ?_
        · as_aux_lemma => kernel_rfl
        refine SPLIT (d := 38) (usedB q.id) ?_ (fun bh8 => ?_) (fun bh8 => ?_)
        · as_aux_lemma => kernel_rfl
        · -- usedB q.id = true
          have h8 := bh8
          refine RUN0 6 [10, 11, 12] [(38, B true), (39, .v (.agg #[vi q.kind, vi q.id, vi q.cabin, vi q.from', vi q.size, vi q.tier])), (44, .v (.agg #[vi q.kind, vi q.id, vi 0, vi 0, vi 0, vi 0]))] ?_ rfl ?_
          · as_aux_lemma => kernel_rfl
          refine OPC (RUNV (.binOp .eql 47 (.tmp 39) (.tmp 44) 47) 45 4 ?_ (Nat.le_of_ble_eq_true rfl) (.bool ((q.kind == q.kind) && ((q.id == q.id) && ((q.cabin == 0) && ((q.from' == 0) && ((q.size == 0) && ((q.tier == 0) && true))))))) (runs_eql (xs := [vi q.kind, vi q.id, vi q.cabin, vi q.from', vi q.size, vi q.tier]) (ys := [vi q.kind, vi q.id, vi 0, vi 0, vi 0, vi 0]) (r := (q.kind == q.kind) && ((q.id == q.id) && ((q.cabin == 0) && ((q.from' == 0) && ((q.size == 0) && ((q.tier == 0) && true)))))) ?_ ?_ ?_) ?_)
          · as_aux_lemma => kernel_rfl
          · as_aux_lemma => kernel_rfl
          · as_aux_lemma => kernel_rfl
          · as_aux_lemma => kernel_rfl
          refine RUN0 2 [] [(2, B ((q.kind == q.kind) && ((q.id == q.id) && ((q.cabin == 0) && ((q.from' == 0) && ((q.size == 0) && ((q.tier == 0) && true)))))))] ?_ rfl ?_
          · as_aux_lemma => kernel_rfl
          refine ENDOPS (NEXT (RET (OUTR (PASS trivial (FIN (.bool ((q.kind == q.kind) && ((q.id == q.id) && ((q.cabin == 0) && ((q.from' == 0) && ((q.size == 0) && ((q.tier == 0) && true))))))) ?_ () ?_ [] ?_)))))
          · as_aux_lemma => kernel_rfl
          · simp [RV, reqOk, reqEq, *]
          · rfl
        · -- usedB q.id = false
          have h8 := bh8
          refine RUN0 9 [] [(2, B false)] ?_ rfl ?_
          · as_aux_lemma => kernel_rfl
          refine ENDOPS (NEXT (RET (OUTR (PASS trivial (FIN (.bool false) ?_ () ?_ [] ?_)))))
          · as_aux_lemma => kernel_rfl
          · simp [RV, reqOk, reqEq, *]
          · rfl
      · exact Bool.noConfusion (bh6.symm.trans bh7)
    · -- q.kind == 2 = false
      have h6 := bh6
      have h6 := ne_of_beq_false h6
      refine SEQ (REGION [0, 1] rfl (RUN0 2 [] [(1, .p 0 0), (4, I q.kind), (30, B (q.kind == 4))] ?_ rfl ?_))
      · as_aux_lemma => kernel_rfl
      refine ENDOPS (NEXT (IF (q.kind == 4) ?_ (fun bh9 => ?_) (fun bh9 => ?_)))
      · as_aux_lemma => kernel_rfl
      · -- q.kind == 4 = true
        have h9 := bh9
        have h9 := eq_of_beq h9
        refine SKIP (NEXT (IF (q.kind == 4) ?_ (fun bh10 => ?_) (fun bh10 => ?_)))
        · as_aux_lemma => kernel_rfl
        · -- q.kind == 4 = true
          have h10 := bh10
          have h10 := eq_of_beq h10
          refine SEQ (REGION [0, 1, 2, 3, 4, 5, 6, 7, 8, 9, 10, 11, 12] rfl (RUN0 2 [2, 3, 4, 5, 6, 7, 8, 9, 10, 11, 12] [(1, .p 0 0), (36, I q.id)] ?_ rfl ?_))
          · as_aux_lemma => kernel_rfl
          refine OPC (CALL 62 #[vi q.id] (some 37) ?_ [] [] _ rfl (RV (.bool (usedB q.id))) (fun w hw => l12Field_c w q.id) (by rintro _ ⟨⟩; exact Nat.le_of_ble_eq_true rfl) ?_)
          · as_aux_lemma => kernel_rfl
          rintro ⟨⟩
          refine RUN0 1 [4, 5, 6, 7, 8, 9, 10, 11, 12] [(1, .p 0 0), (38, B (usedB q.id))] ?_ rfl ?_
          · as_aux_lemma => kernel_rfl
          refine SPLIT (d := 38) (usedB q.id) ?_ (fun bh11 => ?_) (fun bh11 => ?_)
          · as_aux_lemma => kernel_rfl
          · -- usedB q.id = true
            have h11 := bh11
            refine RUN0 6 [10, 11, 12] [(38, B true), (39, .v (.agg #[vi q.kind, vi q.id, vi q.cabin, vi q.from', vi q.size, vi q.tier])), (44, .v (.agg #[vi q.kind, vi q.id, vi 0, vi 0, vi 0, vi 0]))] ?_ rfl ?_
            · as_aux_lemma => kernel_rfl
            refine OPC (RUNV (.binOp .eql 47 (.tmp 39) (.tmp 44) 47) 45 4 ?_ (Nat.le_of_ble_eq_true rfl) (.bool ((q.kind == q.kind) && ((q.id == q.id) && ((q.cabin == 0) && ((q.from' == 0) && ((q.size == 0) && ((q.tier == 0) && true))))))) (runs_eql (xs := [vi q.kind, vi q.id, vi q.cabin, vi q.from', vi q.size, vi q.tier]) (ys := [vi q.kind, vi q.id, vi 0, vi 0, vi 0, vi 0]) (r := (q.kind == q.kind) && ((q.id == q.id) && ((q.cabin == 0) && ((q.from' == 0) && ((q.size == 0) && ((q.tier == 0) && true)))))) ?_ ?_ ?_) ?_)
            · as_aux_lemma => kernel_rfl
            · as_aux_lemma => kernel_rfl
            · as_aux_lemma => kernel_rfl
            · as_aux_lemma => kernel_rfl
            refine RUN0 2 [] [(2, B ((q.kind == q.kind) && ((q.id == q.id) && ((q.cabin == 0) && ((q.from' == 0) && ((q.size == 0) && ((q.tier == 0) && true)))))))] ?_ rfl ?_
            · as_aux_lemma => kernel_rfl
            refine ENDOPS (NEXT (RET (OUTR (PASS trivial (FIN (.bool ((q.kind == q.kind) && ((q.id == q.id) && ((q.cabin == 0) && ((q.from' == 0) && ((q.size == 0) && ((q.tier == 0) && true))))))) ?_ () ?_ [] ?_)))))
            · as_aux_lemma => kernel_rfl
            · simp [RV, reqOk, reqEq, *]
            · rfl
          · -- usedB q.id = false
            have h11 := bh11
            refine RUN0 9 [] [(2, B false)] ?_ rfl ?_
            · as_aux_lemma => kernel_rfl
            refine ENDOPS (NEXT (RET (OUTR (PASS trivial (FIN (.bool false) ?_ () ?_ [] ?_)))))
            · as_aux_lemma => kernel_rfl
            · simp [RV, reqOk, reqEq, *]
            · rfl
        · exact Bool.noConfusion (bh9.symm.trans bh10)
      · -- q.kind == 4 = false
        have h9 := bh9
        have h9 := ne_of_beq_false h9
        refine SEQ (REGION [0, 1] rfl (RUN0 2 [] [(1, .p 0 0), (4, I q.kind), (30, B (q.kind == 5))] ?_ rfl ?_))
        · as_aux_lemma => kernel_rfl
        refine ENDOPS (NEXT (IF (q.kind == 5) ?_ (fun bh12 => ?_) (fun bh12 => ?_)))
        · as_aux_lemma => kernel_rfl
        · -- q.kind == 5 = true
          have h12 := bh12
          have h12 := eq_of_beq h12
          refine SKIP (NEXT (IF (q.kind == 5) ?_ (fun bh13 => ?_) (fun bh13 => ?_)))
          · as_aux_lemma => kernel_rfl
          · -- q.kind == 5 = true
            have h13 := bh13
            have h13 := eq_of_beq h13
            refine SEQ (REGION [0, 1, 2, 3, 4, 5, 6, 7, 8, 9, 10, 11, 12] rfl (RUN0 2 [2, 3, 4, 5, 6, 7, 8, 9, 10, 11, 12] [(1, .p 0 0), (36, I q.id)] ?_ rfl ?_))
            · as_aux_lemma => kernel_rfl
            refine OPC (CALL 62 #[vi q.id] (some 37) ?_ [] [] _ rfl (RV (.bool (usedB q.id))) (fun w hw => l12Field_c w q.id) (by rintro _ ⟨⟩; exact Nat.le_of_ble_eq_true rfl) ?_)
            · as_aux_lemma => kernel_rfl
            rintro ⟨⟩
            refine RUN0 1 [4, 5, 6, 7, 8, 9, 10, 11, 12] [(1, .p 0 0), (38, B (usedB q.id))] ?_ rfl ?_
            · as_aux_lemma => kernel_rfl
            refine SPLIT (d := 38) (usedB q.id) ?_ (fun bh14 => ?_) (fun bh14 => ?_)
            · as_aux_lemma => kernel_rfl
            · -- usedB q.id = true
              have h14 := bh14
              refine RUN0 6 [10, 11, 12] [(38, B true), (39, .v (.agg #[vi q.kind, vi q.id, vi q.cabin, vi q.from', vi q.size, vi q.tier])), (44, .v (.agg #[vi q.kind, vi q.id, vi 0, vi 0, vi 0, vi 0]))] ?_ rfl ?_
              · as_aux_lemma => kernel_rfl
              refine OPC (RUNV (.binOp .eql 47 (.tmp 39) (.tmp 44) 47) 45 4 ?_ (Nat.le_of_ble_eq_true rfl) (.bool ((q.kind == q.kind) && ((q.id == q.id) && ((q.cabin == 0) && ((q.from' == 0) && ((q.size == 0) && ((q.tier == 0) && true))))))) (runs_eql (xs := [vi q.kind, vi q.id, vi q.cabin, vi q.from', vi q.size, vi q.tier]) (ys := [vi q.kind, vi q.id, vi 0, vi 0, vi 0, vi 0]) (r := (q.kind == q.kind) && ((q.id == q.id) && ((q.cabin == 0) && ((q.from' == 0) && ((q.size == 0) && ((q.tier == 0) && true)))))) ?_ ?_ ?_) ?_)
              · as_aux_lemma => kernel_rfl
              · as_aux_lemma => kernel_rfl
              · as_aux_lemma => kernel_rfl
              · as_aux_lemma => kernel_rfl
              refine RUN0 2 [] [(2, B ((q.kind == q.kind) && ((q.id == q.id) && ((q.cabin == 0) && ((q.from' == 0) && ((q.size == 0) && ((q.tier == 0) && true)))))))] ?_ rfl ?_
              · as_aux_lemma => kernel_rfl
              refine ENDOPS (NEXT (RET (OUTR (PASS trivial (FIN (.bool ((q.kind == q.kind) && ((q.id == q.id) && ((q.cabin == 0) && ((q.from' == 0) && ((q.size == 0) && ((q.tier == 0) && true))))))) ?_ () ?_ [] ?_)))))
              · as_aux_lemma => kernel_rfl
              · simp [RV, reqOk, reqEq, *]
              · rfl
            · -- usedB q.id = false
              have h14 := bh14
              refine RUN0 9 [] [(2, B false)] ?_ rfl ?_
              · as_aux_lemma => kernel_rfl
              refine ENDOPS (NEXT (RET (OUTR (PASS trivial (FIN (.bool false) ?_ () ?_ [] ?_)))))
              · as_aux_lemma => kernel_rfl
              · simp [RV, reqOk, reqEq, *]
              · rfl
          · exact Bool.noConfusion (bh12.symm.trans bh13)
        · -- q.kind == 5 = false
          have h12 := bh12
          have h12 := ne_of_beq_false h12
          refine REGION [0, 1] rfl (RUN0 2 [] [(1, .p 0 0), (4, I q.kind), (30, B (q.kind == 7))] ?_ rfl ?_)
          · as_aux_lemma => kernel_rfl
          refine ENDOPS (NEXT (IF (q.kind == 7) ?_ (fun bh15 => ?_) (fun bh15 => ?_)))
          · as_aux_lemma => kernel_rfl
          · -- q.kind == 7 = true
            have h15 := bh15
            have h15 := eq_of_beq h15
            refine SEQ (REGION [0, 1, 2, 3, 4, 5, 6, 7, 8, 9, 10, 11, 12] rfl (RUN0 2 [2, 3, 4, 5, 6, 7, 8, 9, 10, 11, 12] [(1, .p 0 0), (36, I q.id)] ?_ rfl ?_))
            · as_aux_lemma => kernel_rfl
            refine OPC (CALL 62 #[vi q.id] (some 37) ?_ [] [] _ rfl (RV (.bool (usedB q.id))) (fun w hw => l12Field_c w q.id) (by rintro _ ⟨⟩; exact Nat.le_of_ble_eq_true rfl) ?_)
            · as_aux_lemma => kernel_rfl
            rintro ⟨⟩
            refine RUN0 1 [4, 5, 6, 7, 8, 9, 10, 11, 12] [(1, .p 0 0), (38, B (usedB q.id))] ?_ rfl ?_
            · as_aux_lemma => kernel_rfl
            refine SPLIT (d := 38) (usedB q.id) ?_ (fun bh16 => ?_) (fun bh16 => ?_)
            · as_aux_lemma => kernel_rfl
            · -- usedB q.id = true
              have h16 := bh16
              refine RUN0 6 [10, 11, 12] [(38, B true), (39, .v (.agg #[vi q.kind, vi q.id, vi q.cabin, vi q.from', vi q.size, vi q.tier])), (44, .v (.agg #[vi q.kind, vi q.id, vi 0, vi 0, vi 0, vi 0]))] ?_ rfl ?_
              · as_aux_lemma => kernel_rfl
              refine OPC (RUNV (.binOp .eql 47 (.tmp 39) (.tmp 44) 47) 45 4 ?_ (Nat.le_of_ble_eq_true rfl) (.bool ((q.kind == q.kind) && ((q.id == q.id) && ((q.cabin == 0) && ((q.from' == 0) && ((q.size == 0) && ((q.tier == 0) && true))))))) (runs_eql (xs := [vi q.kind, vi q.id, vi q.cabin, vi q.from', vi q.size, vi q.tier]) (ys := [vi q.kind, vi q.id, vi 0, vi 0, vi 0, vi 0]) (r := (q.kind == q.kind) && ((q.id == q.id) && ((q.cabin == 0) && ((q.from' == 0) && ((q.size == 0) && ((q.tier == 0) && true)))))) ?_ ?_ ?_) ?_)
              · as_aux_lemma => kernel_rfl
              · as_aux_lemma => kernel_rfl
              · as_aux_lemma => kernel_rfl
              · as_aux_lemma => kernel_rfl
              refine RUN0 2 [] [(2, B ((q.kind == q.kind) && ((q.id == q.id) && ((q.cabin == 0) && ((q.from' == 0) && ((q.size == 0) && ((q.tier == 0) && true)))))))] ?_ rfl ?_
              · as_aux_lemma => kernel_rfl
              refine ENDOPS (NEXT (RET (OUTR (PASS trivial (FIN (.bool ((q.kind == q.kind) && ((q.id == q.id) && ((q.cabin == 0) && ((q.from' == 0) && ((q.size == 0) && ((q.tier == 0) && true))))))) ?_ () ?_ [] ?_)))))
              · as_aux_lemma => kernel_rfl
              · simp [RV, reqOk, reqEq, *]
              · rfl
            · -- usedB q.id = false
              have h16 := bh16
              refine RUN0 9 [] [(2, B false)] ?_ rfl ?_
              · as_aux_lemma => kernel_rfl
              refine ENDOPS (NEXT (RET (OUTR (PASS trivial (FIN (.bool false) ?_ () ?_ [] ?_)))))
              · as_aux_lemma => kernel_rfl
              · simp [RV, reqOk, reqEq, *]
              · rfl
          · -- q.kind == 7 = false
            have h15 := bh15
            have h15 := ne_of_beq_false h15
            refine SEQ (REGION [0, 1] rfl (RUN0 2 [] [(1, .p 0 0), (4, I q.kind), (47, B (q.kind == 3))] ?_ rfl ?_))
            · as_aux_lemma => kernel_rfl
            refine ENDOPS (NEXT (IF (q.kind == 3) ?_ (fun bh17 => ?_) (fun bh17 => ?_)))
            · as_aux_lemma => kernel_rfl
            · -- q.kind == 3 = true
              have h17 := bh17
              have h17 := eq_of_beq h17
              refine SEQ (REGION [0, 1, 2, 3, 4, 5, 6, 7, 8, 9, 10, 11, 12, 13, 14, 15, 16, 17, 18, 19] rfl (RUN0 2 [2, 3, 4, 5, 6, 7, 8, 9, 10, 11, 12, 13, 14, 15, 16, 17, 18, 19] [(1, .p 0 0), (50, I q.cabin)] ?_ rfl ?_))
              · as_aux_lemma => kernel_rfl
              refine OPC (CALL 62 #[vi q.cabin] (some 51) ?_ [] [] _ rfl (RV (.bool (usedB q.cabin))) (fun w hw => l12Field_c w q.cabin) (by rintro _ ⟨⟩; exact Nat.le_of_ble_eq_true rfl) ?_)
              · as_aux_lemma => kernel_rfl
              rintro ⟨⟩
              refine RUN0 1 [4, 5, 6, 7, 8, 9, 10, 11, 12, 13, 14, 15, 16, 17, 18, 19] [(1, .p 0 0), (52, B (usedB q.cabin))] ?_ rfl ?_
              · as_aux_lemma => kernel_rfl
              refine SPLIT (d := 52) (usedB q.cabin) ?_ (fun bh18 => ?_) (fun bh18 => ?_)
              · as_aux_lemma => kernel_rfl
              · -- usedB q.cabin = true
                have h18 := bh18
                refine RUN0 2 [6, 7, 8, 9, 10, 11, 12, 13, 14, 15, 16, 17, 18, 19] [(1, .p 0 0), (52, B true), (54, I q.size)] ?_ rfl ?_
                · as_aux_lemma => kernel_rfl
                refine OPC (CALL 62 #[vi q.size] (some 55) ?_ [] [] _ rfl (RV (.bool (usedB q.size))) (fun w hw => l12Field_c w q.size) (by rintro _ ⟨⟩; exact Nat.le_of_ble_eq_true rfl) ?_)
                · as_aux_lemma => kernel_rfl
                rintro ⟨⟩
                refine RUN0 2 [9, 10, 11, 12, 13, 14, 15, 16, 17, 18, 19] [(1, .p 0 0), (57, B (usedB q.size))] ?_ rfl ?_
                · as_aux_lemma => kernel_rfl
                refine SPLIT (d := 57) (usedB q.size) ?_ (fun bh19 => ?_) (fun bh19 => ?_)
                · as_aux_lemma => kernel_rfl
                · -- usedB q.size = true
                  have h19 := bh19
                  refine RUN0 8 [17, 18, 19] [(57, B true), (58, .v (.agg #[vi q.kind, vi q.id, vi q.cabin, vi q.from', vi q.size, vi q.tier])), (65, .v (.agg #[vi q.kind, vi 0, vi q.cabin, vi 0, vi q.size, vi 0]))] ?_ rfl ?_
                  · as_aux_lemma => kernel_rfl
                  refine OPC (RUNV (.binOp .eql 47 (.tmp 58) (.tmp 65) 47) 66 4 ?_ (Nat.le_of_ble_eq_true rfl) (.bool ((q.kind == q.kind) && ((q.id == 0) && ((q.cabin == q.cabin) && ((q.from' == 0) && ((q.size == q.size) && ((q.tier == 0) && true))))))) (runs_eql (xs := [vi q.kind, vi q.id, vi q.cabin, vi q.from', vi q.size, vi q.tier]) (ys := [vi q.kind, vi 0, vi q.cabin, vi 0, vi q.size, vi 0]) (r := (q.kind == q.kind) && ((q.id == 0) && ((q.cabin == q.cabin) && ((q.from' == 0) && ((q.size == q.size) && ((q.tier == 0) && true)))))) ?_ ?_ ?_) ?_)
                  · as_aux_lemma => kernel_rfl
                  · as_aux_lemma => kernel_rfl
                  · as_aux_lemma => kernel_rfl
                  · as_aux_lemma => kernel_rfl
                  refine RUN0 2 [] [(2, B ((q.kind == q.kind) && ((q.id == 0) && ((q.cabin == q.cabin) && ((q.from' == 0) && ((q.size == q.size) && ((q.tier == 0) && true)))))))] ?_ rfl ?_
                  · as_aux_lemma => kernel_rfl
                  refine ENDOPS (NEXT (RET (OUTR (PASS trivial (FIN (.bool ((q.kind == q.kind) && ((q.id == 0) && ((q.cabin == q.cabin) && ((q.from' == 0) && ((q.size == q.size) && ((q.tier == 0) && true))))))) ?_ () ?_ [] ?_)))))
                  · as_aux_lemma => kernel_rfl
                  · simp [RV, reqOk, reqEq, *]
                  · rfl
                · -- usedB q.size = false
                  have h19 := bh19
                  refine RUN0 11 [] [(2, B false)] ?_ rfl ?_
                  · as_aux_lemma => kernel_rfl
                  refine ENDOPS (NEXT (RET (OUTR (PASS trivial (FIN (.bool false) ?_ () ?_ [] ?_)))))
                  · as_aux_lemma => kernel_rfl
                  · simp [RV, reqOk, reqEq, *]
                  · rfl
              · -- usedB q.cabin = false
                have h18 := bh18
                refine RUN0 16 [] [(2, B false)] ?_ rfl ?_
                · as_aux_lemma => kernel_rfl
                refine ENDOPS (NEXT (RET (OUTR (PASS trivial (FIN (.bool false) ?_ () ?_ [] ?_)))))
                · as_aux_lemma => kernel_rfl
                · simp [RV, reqOk, reqEq, *]
                · rfl
            · -- q.kind == 3 = false
              have h17 := bh17
              have h17 := ne_of_beq_false h17
              refine SEQ (REGION [0, 1] rfl (RUN0 2 [] [(1, .p 0 0), (68, B (q.kind == 6))] ?_ rfl ?_))
              · as_aux_lemma => kernel_rfl
              refine ENDOPS (NEXT (IF (q.kind == 6) ?_ (fun bh20 => ?_) (fun bh20 => ?_)))
              · as_aux_lemma => kernel_rfl
              · -- q.kind == 6 = true
                have h20 := bh20
                have h20 := eq_of_beq h20
                refine SEQ (REGION [0, 1, 2, 3, 4, 5] rfl (RUN0 4 [4, 5] [(70, .v (.agg #[vi q.kind, vi q.id, vi q.cabin, vi q.from', vi q.size, vi q.tier])), (73, .v (.agg #[vi q.kind, vi 0, vi 0, vi 0, vi 0, vi 0]))] ?_ rfl ?_))
                · as_aux_lemma => kernel_rfl
                refine OPC (RUNV (.binOp .eql 47 (.tmp 70) (.tmp 73) 47) 74 4 ?_ (Nat.le_of_ble_eq_true rfl) (.bool ((q.kind == q.kind) && ((q.id == 0) && ((q.cabin == 0) && ((q.from' == 0) && ((q.size == 0) && ((q.tier == 0) && true))))))) (runs_eql (xs := [vi q.kind, vi q.id, vi q.cabin, vi q.from', vi q.size, vi q.tier]) (ys := [vi q.kind, vi 0, vi 0, vi 0, vi 0, vi 0]) (r := (q.kind == q.kind) && ((q.id == 0) && ((q.cabin == 0) && ((q.from' == 0) && ((q.size == 0) && ((q.tier == 0) && true)))))) ?_ ?_ ?_) ?_)
                · as_aux_lemma => kernel_rfl
                · as_aux_lemma => kernel_rfl
                · as_aux_lemma => kernel_rfl
                · as_aux_lemma => kernel_rfl
                refine RUN0 1 [] [(2, B ((q.kind == q.kind) && ((q.id == 0) && ((q.cabin == 0) && ((q.from' == 0) && ((q.size == 0) && ((q.tier == 0) && true)))))))] ?_ rfl ?_
                · as_aux_lemma => kernel_rfl
                refine ENDOPS (NEXT (RET (OUTR (PASS trivial (FIN (.bool ((q.kind == q.kind) && ((q.id == 0) && ((q.cabin == 0) && ((q.from' == 0) && ((q.size == 0) && ((q.tier == 0) && true))))))) ?_ () ?_ [] ?_)))))
                · as_aux_lemma => kernel_rfl
                · simp [RV, reqOk, reqEq, *]
                · rfl
              · -- q.kind == 6 = false
                have h20 := bh20
                have h20 := ne_of_beq_false h20
                refine SKIP (OUTN (NEXT (SEQ (REGION [0] rfl (RUN0 1 [] [(2, B false)] ?_ rfl ?_)))))
                · as_aux_lemma => kernel_rfl
                refine ENDOPS (NEXT (RET (FIN (.bool false) ?_ () ?_ [] ?_)))
                · as_aux_lemma => kernel_rfl
                · simp [RV, reqOk, reqEq, *]
                · rfl

theorem iReqOk1_c (W : World) (n : Int) : Spec Tryd.prog W [] 59 #[vi n] (RV (.bool (usedB n))) := by
  refine ENTER0 (N := 5) (vs := [vi n]) Tryd.func59 rfl rfl (Nat.le_of_ble_eq_true rfl) ?_
  refine SEQ (REGION [0] rfl (RUN0 1 [] [(0, I n)] ?_ rfl ?_))
  · as_aux_lemma => kernel_rfl
  refine ENDOPS (NEXT (SEQ (REGION [0, 1, 2] rfl (RUN0 1 [1, 2] [(3, I n)] ?_ rfl ?_))))
  · as_aux_lemma => kernel_rfl
  refine OPC (CALL 60 #[vi n, vi 0, vi 9999] (some 4) ?_ [] [] _ rfl (RV (.bool (inB n 0 9999))) (fun w hw => within_c w n 0 9999) (by rintro _ ⟨⟩; exact Nat.le_of_ble_eq_true rfl) ?_)
  · as_aux_lemma => kernel_rfl
  rintro ⟨⟩
  refine RUN0 1 [] [(2, B (inB n 0 9999))] ?_ rfl ?_
  · as_aux_lemma => kernel_rfl
  refine ENDOPS (NEXT (RET (FIN (.bool (inB n 0 9999)) ?_ () ?_ [] ?_)))
  · as_aux_lemma => kernel_rfl
  · simp [RV, usedB]
  · rfl

theorem iReqOk_c (W : World) (q : Req) : Spec Tryd.prog W [] 49 #[.agg #[vi q.kind, vi q.id, vi q.cabin, vi q.from', vi q.size, vi q.tier]] (RV (.bool (reqOk q))) := by
  refine ENTER0 (N := 81) (vs := [.agg #[vi q.kind, vi q.id, vi q.cabin, vi q.from', vi q.size, vi q.tier]]) Tryd.func49 rfl rfl (Nat.le_of_ble_eq_true rfl) ?_
  refine SEQ (REGION [0, 1] rfl (RUN 2 [] [(1, .p 0 0)] [(47, [vi q.kind, vi q.id, vi q.cabin, vi q.from', vi q.size, vi q.tier])] ?_ rfl ?_))
  · as_aux_lemma => kernel_rfl
  refine ENDOPS (NEXT (SEQ (REGION [0] rfl (RUN0 1 [] [(1, .p 0 0), (3, .v (.func (.func 59) #[] #[]))] ?_ rfl ?_))))
  · as_aux_lemma => kernel_rfl
  refine ENDOPS (NEXT (SEQ (SEQ (REGION [0, 1] rfl (RUN0 2 [] [(1, .p 0 0), (3, .v (.func (.func 59) #[] #[])), (5, I q.kind)] ?_ rfl ?_)))))
  · as_aux_lemma => kernel_rfl
  refine ENDOPS (NEXT (BLOCK (SEQ (REGION [0, 1] rfl (RUN0 2 [] [(1, .p 0 0), (3, .v (.func (.func 59) #[] #[])), (5, I q.kind), (6, B (q.kind == 1))] ?_ rfl ?_)))))
  · as_aux_lemma => kernel_rfl
  refine ENDOPS (NEXT (IF (q.kind == 1) ?_ (fun bh1 => ?_) (fun bh1 => ?_)))
  · as_aux_lemma => kernel_rfl
  · -- q.kind == 1 = true
    have h1 := bh1
    have h1 := eq_of_beq h1
    refine SEQ (REGION [0, 1, 2, 3, 4, 5, 6, 7, 8, 9, 10, 11, 12, 13, 14, 15, 16, 17, 18, 19, 20, 21, 22, 23, 24, 25, 26, 27] rfl (RUN0 3 [3, 4, 5, 6, 7, 8, 9, 10, 11, 12, 13, 14, 15, 16, 17, 18, 19, 20, 21, 22, 23, 24, 25, 26, 27] [(1, .p 0 0), (3, .v (.func (.func 59) #[] #[])), (8, .v (.func (.func 59) #[] #[])), (10, I q.id)] ?_ rfl ?_))
    · as_aux_lemma => kernel_rfl
    refine OPC (CALL 59 #[vi q.id] (some 11) ?_ [] [] _ rfl (RV (.bool (usedB q.id))) (fun w hw => iReqOk1_c w q.id) (by rintro _ ⟨⟩; exact Nat.le_of_ble_eq_true rfl) ?_)
    · as_aux_lemma => kernel_rfl
    rintro ⟨⟩
    refine RUN0 1 [5, 6, 7, 8, 9, 10, 11, 12, 13, 14, 15, 16, 17, 18, 19, 20, 21, 22, 23, 24, 25, 26, 27] [(1, .p 0 0), (3, .v (.func (.func 59) #[] #[])), (12, B (usedB q.id))] ?_ rfl ?_
    · as_aux_lemma => kernel_rfl
    refine SPLIT (d := 12) (usedB q.id) ?_ (fun bh2 => ?_) (fun bh2 => ?_)
    · as_aux_lemma => kernel_rfl
    · -- usedB q.id = true
      have h2 := bh2
      refine RUN0 3 [8, 9, 10, 11, 12, 13, 14, 15, 16, 17, 18, 19, 20, 21, 22, 23, 24, 25, 26, 27] [(1, .p 0 0), (3, .v (.func (.func 59) #[] #[])), (12, B true), (13, .v (.func (.func 59) #[] #[])), (15, I q.cabin)] ?_ rfl ?_
      · as_aux_lemma => kernel_rfl
      refine OPC (CALL 59 #[vi q.cabin] (some 16) ?_ [] [] _ rfl (RV (.bool (usedB q.cabin))) (fun w hw => iReqOk1_c w q.cabin) (by rintro _ ⟨⟩; exact Nat.le_of_ble_eq_true rfl) ?_)
      · as_aux_lemma => kernel_rfl
      rintro ⟨⟩
      refine RUN0 2 [11, 12, 13, 14, 15, 16, 17, 18, 19, 20, 21, 22, 23, 24, 25, 26, 27] [(1, .p 0 0), (3, .v (.func (.func 59) #[] #[])), (18, B (usedB q.cabin))] ?_ rfl ?_
      · as_aux_lemma => kernel_rfl
      refine SPLIT (d := 18) (usedB q.cabin) ?_ (fun bh3 => ?_) (fun bh3 => ?_)
      · as_aux_lemma => kernel_rfl
      · -- usedB q.cabin = true
        have h3 := bh3
        refine RUN0 2 [13, 14, 15, 16, 17, 18, 19, 20, 21, 22, 23, 24, 25, 26, 27] [(1, .p 0 0), (3, .v (.func (.func 59) #[] #[])), (18, B true), (20, I q.from')] ?_ rfl ?_
        · as_aux_lemma => kernel_rfl
        refine OPC (CALL 60 #[vi q.from', vi (-1), vi 9999] (some 21) ?_ [] [] _ rfl (RV (.bool (inB q.from' (-1) 9999))) (fun w hw => within_c w q.from' (-1) 9999) (by rintro _ ⟨⟩; exact Nat.le_of_ble_eq_true rfl) ?_)
        · as_aux_lemma => kernel_rfl
        rintro ⟨⟩
        refine RUN0 2 [16, 17, 18, 19, 20, 21, 22, 23, 24, 25, 26, 27] [(1, .p 0 0), (3, .v (.func (.func 59) #[] #[])), (23, B (inB q.from' (-1) 9999))] ?_ rfl ?_
        · as_aux_lemma => kernel_rfl
        refine SPLIT (d := 23) (inB q.from' (-1) 9999) ?_ (fun bh4 => ?_) (fun bh4 => ?_)
        · as_aux_lemma => kernel_rfl
        · -- inB q.from' (-1) 9999 = true
          have h4 := bh4
          refine RUN0 3 [19, 20, 21, 22, 23, 24, 25, 26, 27] [(1, .p 0 0), (3, .v (.func (.func 59) #[] #[])), (23, B true), (24, .v (.func (.func 59) #[] #[])), (26, I q.size)] ?_ rfl ?_
          · as_aux_lemma => kernel_rfl
          refine OPC (CALL 59 #[vi q.size] (some 27) ?_ [] [] _ rfl (RV (.bool (usedB q.size))) (fun w hw => iReqOk1_c w q.size) (by rintro _ ⟨⟩; exact Nat.le_of_ble_eq_true rfl) ?_)
          · as_aux_lemma => kernel_rfl
          rintro ⟨⟩
          refine RUN0 2 [22, 23, 24, 25, 26, 27] [(1, .p 0 0), (3, .v (.func (.func 59) #[] #[])), (29, B (usedB q.size))] ?_ rfl ?_
          · as_aux_lemma => kernel_rfl
          refine SPLIT (d := 29) (usedB q.size) ?_ (fun bh5 => ?_) (fun bh5 => ?_)
          · as_aux_lemma => kernel_rfl
          · -- usedB q.size = true
            have h5 := bh5
            refine RUN0 3 [25, 26, 27] [(29, B true), (30, .v (.func (.func 59) #[] #[])), (32, I q.tier)] ?_ rfl ?_
            · as_aux_lemma => kernel_rfl
            refine OPC (CALL 59 #[vi q.tier] (some 33) ?_ [] [] _ rfl (RV (.bool (usedB q.tier))) (fun w hw => iReqOk1_c w q.tier) (by rintro _ ⟨⟩; exact Nat.le_of_ble_eq_true rfl) ?_)
            · as_aux_lemma => kernel_rfl
            rintro ⟨⟩
            refine RUN0 2 [] [(2, B (usedB q.tier))] ?_ rfl ?_
            · as_aux_lemma => kernel_rfl
            refine ENDOPS (NEXT (RET (OUTR (PASS trivial (FIN (.bool (usedB q.tier)) ?_ () ?_ [] ?_)))))
            · as_aux_lemma => kernel_rfl
            · simp [RV, reqOk, reqEq, *]
            · rfl
          · -- usedB q.size = false
            have h5 := bh5
            refine RUN0 6 [] [(2, B false)] ?_ rfl ?_
            · as_aux_lemma => kernel_rfl
            refine ENDOPS (NEXT (RET (OUTR (PASS trivial (FIN (.bool false) ?_ () ?_ [] ?_)))))
            · as_aux_lemma => kernel_rfl
            · simp [RV, reqOk, reqEq, *]
            · rfl
        · -- inB q.from' (-1) 9999 = false
          have h4 := bh4
          refine RUN0 12 [] [(2, B false)] ?_ rfl ?_
          · as_aux_lemma => kernel_rfl
          refine ENDOPS (NEXT (RET (OUTR (PASS trivial (FIN (.bool false) ?_ () ?_ [] ?_)))))
          · as_aux_lemma => kernel_rfl
          · simp [RV, reqOk, reqEq, *]
          · rfl
      · -- usedB q.cabin = false
        have h3 := bh3
        refine RUN0 17 [] [(2, B false)] ?_ rfl ?_
        · as_aux_lemma => kernel_rfl
        refine ENDOPS (NEXT (RET (OUTR (PASS trivial (FIN (.bool false) ?_ () ?_ [] ?_)))))
        · as_aux_lemma => kernel_rfl
        · simp [RV, reqOk, reqEq, *]
        · rfl
    · -- usedB q.id = false
      have h2 := bh2
      refine RUN0 23 [] [(2, B false)] ?_ rfl ?_
      · as_aux_lemma => kernel_rfl
      refine ENDOPS (NEXT (RET (OUTR (PASS trivial (FIN (.bool false) ?_ () ?_ [] ?_)))))
      · as_aux_lemma => kernel_rfl
      · simp [RV, reqOk, reqEq, *]
      · rfl
  · -- q.kind == 1 = false
    have h1 := bh1
    have h1 := ne_of_beq_false h1
    refine SEQ (SEQ (REGION [0, 1] rfl (RUN0 2 [] [(1, .p 0 0), (3, .v (.func (.func 59) #[] #[])), (5, I q.kind), (35, B (q.kind == 2))] ?_ rfl ?_)))
    · as_aux_lemma => kernel_rfl
    refine ENDOPS (NEXT (IF (q.kind == 2) ?_ (fun bh6 => ?_) (fun bh6 => ?_)))
    · as_aux_lemma => kernel_rfl
    · -- q.kind == 2 = true
      have h6 := bh6
      have h6 := eq_of_beq h6
      refine SKIP (NEXT (IF (q.kind == 2) ?_ (fun bh7 => ?_) (fun bh7 => ?_)))
      · as_aux_lemma => kernel_rfl
      · -- q.kind == 2 = true
        have h7 := bh7
        have h7 := eq_of_beq h7
        refine SEQ (REGION [0, 1, 2, 3, 4, 5, 6, 7, 8, 9, 10, 11, 12, 13] rfl (RUN0 3 [3, 4, 5, 6, 7, 8, 9, 10, 11, 12, 13] [(1, .p 0 0), (40, .v (.func (.func 59) #[] #[])), (42, I q.id)] ?_ rfl ?_))
        · as_aux_lemma => kernel_rfl
        refine OPC (CALL 59 #[vi q.id] (some 43) ?_ [] [] _ rfl (RV (.bool (usedB q.id))) (fun w hw => iReqOk1_c w q.id) (by rintro _ ⟨⟩; exact Nat.le_of_ble_eq_true rfl) ?_)
        · as_aux_lemma => kernel_rfl
        rintro ⟨⟩
        refine RUN0 1 [5, 6, 7, 8, 9, 10, 11, 12, 13] [(1, .p 0 0), (44, B (usedB q.id))] ?_ rfl ?_
        · as_aux_lemma => kernel_rfl
        refine SPLIT (d := 44) (usedB q.id) ?_ (fun bh8 => ?_) (fun bh8 => ?_)
        · as_aux_lemma => kernel_rfl
        · -- usedB q.id = true
          have h8 := bh8
          refine RUN0 6 [11, 12, 13] [(44, B true), (45, .v (.agg #[vi q.kind, vi q.id, vi q.cabin, vi q.from', vi q.size, vi q.tier])), (50, .v (.agg #[vi q.kind, vi q.id, vi 0, vi 0, vi 0, vi 0]))] ?_ rfl ?_
          · as_aux_lemma => kernel_rfl
          refine OPC (RUNV (.binOp .eql 47 (.tmp 45) (.tmp 50) 47) 51 4 ?_ (Nat.le_of_ble_eq_true rfl) (.bool ((q.kind == q.kind) && ((q.id == q.id) && ((q.cabin == 0) && ((q.from' == 0) && ((q.size == 0) && ((q.tier == 0) && true))))))) (runs_eql (xs := [vi q.kind, vi q.id, vi q.cabin, vi q.from', vi q.size, vi q.tier]) (ys := [vi q.kind, vi q.id, vi 0, vi 0, vi 0, vi 0]) (r := (q.kind == q.kind) && ((q.id == q.id) && ((q.cabin == 0) && ((q.from' == 0) && ((q.size == 0) && ((q.tier == 0) && true)))))) ?_ ?_ ?_) ?_)
          · as_aux_lemma => kernel_rfl
          · as_aux_lemma => kernel_rfl
          · as_aux_lemma => kernel_rfl
          · as_aux_lemma => kernel_rfl
          refine RUN0 2 [] [(2, B ((q.kind == q.kind) && ((q.id == q.id) && ((q.cabin == 0) && ((q.from' == 0) && ((q.size == 0) && ((q.tier == 0) && true)))))))] ?_ rfl ?_
          · as_aux_lemma => kernel_rfl
          refine ENDOPS (NEXT (RET (OUTR (PASS trivial (FIN (.bool ((q.kind == q.kind) && ((q.id == q.id) && ((q.cabin == 0) && ((q.from' == 0) && ((q.size == 0) && ((q.tier == 0) && true))))))) ?_ () ?_ [] ?_)))))
          · as_aux_lemma => kernel_rfl
          · simp [RV, reqOk, reqEq, *]
          · rfl
        · -- usedB q.id = false
          have h8 := bh8
          refine RUN0 9 [] [(2, B false)] ?_ rfl ?_
          · as_aux_lemma => kernel_rfl
          refine ENDOPS (NEXT (RET (OUTR (PASS trivial (FIN (.bool false) ?_ () ?_ [] ?_)))))
          · as_aux_lemma => kernel_rfl
          · simp [RV, reqOk, reqEq, *]
          · rfl
      · exact Bool.noConfusion (bh6.symm.trans bh7)
    · -- q.kind == 2 = false
      have h6 := bh6
      have h6 := ne_of_beq_false h6
      refine SEQ (REGION [0, 1] rfl (RUN0 2 [] [(1, .p 0 0), (3, .v (.func (.func 59) #[] #[])), (5, I q.kind), (35, B (q.kind == 4))] ?_ rfl ?_))
      · as_aux_lemma => kernel_rfl
      refine ENDOPS (NEXT (IF (q.kind == 4) ?_ (fun bh9 => ?_) (fun bh9 => ?_)))
      · as_aux_lemma => kernel_rfl
      · -- q.kind == 4 = true
        have h9 := bh9
        have h9 := eq_of_beq h9
        refine SKIP (NEXT (IF (q.kind == 4) ?_ (fun bh10 => ?_) (fun bh10 => ?_)))
        · as_aux_lemma => kernel_rfl
        · -- q.kind == 4 = true
          have h10 := bh10
          have h10 := eq_of_beq h10
          refine SEQ (REGION [0, 1, 2, 3, 4, 5, 6, 7, 8, 9, 10, 11, 12, 13] rfl (RUN0 3 [3, 4, 5, 6, 7, 8, 9, 10, 11, 12, 13] [(1, .p 0 0), (40, .v (.func (.func 59) #[] #[])), (42, I q.id)] ?_ rfl ?_))
          · as_aux_lemma => kernel_rfl
          refine OPC (CALL 59 #[vi q.id] (some 43) ?_ [] [] _ rfl (RV (.bool (usedB q.id))) (fun w hw => iReqOk1_c w q.id) (by rintro _ ⟨⟩; exact Nat.le_of_ble_eq_true rfl) ?_)
          · as_aux_lemma => kernel_rfl
          rintro ⟨⟩
          refine RUN0 1 [5, 6, 7, 8, 9, 10, 11, 12, 13] [(1, .p 0 0), (44, B (usedB q.id))] ?_ rfl ?_
          · as_aux_lemma => kernel_rfl
          refine SPLIT (d := 44) (usedB q.id) ?_ (fun bh11 => ?_) (fun bh11 => ?_)
          · as_aux_lemma => kernel_rfl
          · -- usedB q.id = true
            have h11 := bh11
            refine RUN0 6 [11, 12, 13] [(44, B true), (45, .v (.agg #[vi q.kind, vi q.id, vi q.cabin, vi q.from', vi q.size, vi q.tier])), (50, .v (.agg #[vi q.kind, vi q.id, vi 0, vi 0, vi 0, vi 0]))] ?_ rfl ?_
            · as_aux_lemma => kernel_rfl
            refine OPC (RUNV (.binOp .eql 47 (.tmp 45) (.tmp 50) 47) 51 4 ?_ (Nat.le_of_ble_eq_true rfl) (.bool ((q.kind == q.kind) && ((q.id == q.id) && ((q.cabin == 0) && ((q.from' == 0) && ((q.size == 0) && ((q.tier == 0) && true))))))) (runs_eql (xs := [vi q.kind, vi q.id, vi q.cabin, vi q.from', vi q.size, vi q.tier]) (ys := [vi q.kind, vi q.id, vi 0, vi 0, vi 0, vi 0]) (r := (q.kind == q.kind) && ((q.id == q.id) && ((q.cabin == 0) && ((q.from' == 0) && ((q.size == 0) && ((q.tier == 0) && true)))))) ?_ ?_ ?_) ?_)
            · as_aux_lemma => kernel_rfl
            · as_aux_lemma => kernel_rfl
            · as_aux_lemma => kernel_rfl
            · as_aux_lemma => kernel_rfl
            refine RUN0 2 [] [(2, B ((q.kind == q.kind) && ((q.id == q.id) && ((q.cabin == 0) && ((q.from' == 0) && ((q.size == 0) && ((q.tier == 0) && true)))))))] ?_ rfl ?_
            · as_aux_lemma => kernel_rfl
            refine ENDOPS (NEXT (RET (OUTR (PASS trivial (FIN (.bool ((q.kind == q.kind) && ((q.id == q.id) && ((q.cabin == 0) && ((q.from' == 0) && ((q.size == 0) && ((q.tier == 0) && true))))))) ?_ () ?_ [] ?_)))))
            · as_aux_lemma => kernel_rfl
            · simp [RV, reqOk, reqEq, *]
            · rfl
          · -- usedB q.id = false
            have h11 := bh11
            refine RUN0 9 [] [(2, B false)] ?_ rfl ?_
            · as_aux_lemma => kernel_rfl
            refine ENDOPS (NEXT (RET (OUTR (PASS trivial (FIN (.bool false) ?_ () ?_ [] ?_)))))
            · as_aux_lemma => kernel_rfl
            · simp [RV, reqOk, reqEq, *]
            · rfl
        · exact Bool.noConfusion (bh9.symm.trans bh10)
      · -- q.kind == 4 = false
        have h9 := bh9
        have h9 := ne_of_beq_false h9
        refine SEQ (REGION [0, 1] rfl (RUN0 2 [] [(1, .p 0 0), (3, .v (.func (.func 59) #[] #[])), (5, I q.kind), (35, B (q.kind == 5))] ?_ rfl ?_))
        · as_aux_lemma => kernel_rfl
        refine ENDOPS (NEXT (IF (q.kind == 5) ?_ (fun bh12 => ?_) (fun bh12 => ?_)))
        · as_aux_lemma => kernel_rfl
        · -- q.kind == 5 = true
          have h12 := bh12
          have h12 := eq_of_beq h12
          refine SKIP (NEXT (IF (q.kind == 5) ?_ (fun bh13 => ?_) (fun bh13 => ?_)))
          · as_aux_lemma => kernel_rfl
          · -- q.kind == 5 = true
            have h13 := bh13
            have h13 := eq_of_beq h13
            refine SEQ (REGION [0, 1, 2, 3, 4, 5, 6, 7, 8, 9, 10, 11, 12, 13] rfl (RUN0 3 [3, 4, 5, 6, 7, 8, 9, 10, 11, 12, 13] [(1, .p 0 0), (40, .v (.func (.func 59) #[] #[])), (42, I q.id)] ?_ rfl ?_))
            · as_aux_lemma => kernel_rfl
            refine OPC (CALL 59 #[vi q.id] (some 43) ?_ [] [] _ rfl (RV (.bool (usedB q.id))) (fun w hw => iReqOk1_c w q.id) (by rintro _ ⟨⟩; exact Nat.le_of_ble_eq_true rfl) ?_)
            · as_aux_lemma => kernel_rfl
            rintro ⟨⟩
            refine RUN0 1 [5, 6, 7, 8, 9, 10, 11, 12, 13] [(1, .p 0 0), (44, B (usedB q.id))] ?_ rfl ?_
            · as_aux_lemma => kernel_rfl
            refine SPLIT (d := 44) (usedB q.id) ?_ (fun bh14 => ?_) (fun bh14 => ?_)
            · as_aux_lemma => kernel_rfl
            · -- usedB q.id = true
              have h14 := bh14
              refine RUN0 6 [11, 12, 13] [(44, B true), (45, .v (.agg #[vi q.kind, vi q.id, vi q.cabin, vi q.from', vi q.size, vi q.tier])), (50, .v (.agg #[vi q.kind, vi q.id, vi 0, vi 0, vi 0, vi 0]))] ?_ rfl ?_
              · as_aux_lemma => kernel_rfl
              refine OPC (RUNV (.binOp .eql 47 (.tmp 45) (.tmp 50) 47) 51 4 ?_ (Nat.le_of_ble_eq_true rfl) (.bool ((q.kind == q.kind) && ((q.id == q.id) && ((q.cabin == 0) && ((q.from' == 0) && ((q.size == 0) && ((q.tier == 0) && true))))))) (runs_eql (xs := [vi q.kind, vi q.id, vi q.cabin, vi q.from', vi q.size, vi q.tier]) (ys := [vi q.kind, vi q.id, vi 0, vi 0, vi 0, vi 0]) (r := (q.kind == q.kind) && ((q.id == q.id) && ((q.cabin == 0) && ((q.from' == 0) && ((q.size == 0) && ((q.tier == 0) && true)))))) ?_ ?_ ?_) ?_)
              · as_aux_lemma => kernel_rfl
              · as_aux_lemma => kernel_rfl
              · as_aux_lemma => kernel_rfl
              · as_aux_lemma => kernel_rfl
              refine RUN0 2 [] [(2, B ((q.kind == q.kind) && ((q.id == q.id) && ((q.cabin == 0) && ((q.from' == 0) && ((q.size == 0) && ((q.tier == 0) && true)))))))] ?_ rfl ?_
              · as_aux_lemma => kernel_rfl
              refine ENDOPS (NEXT (RET (OUTR (PASS trivial (FIN (.bool ((q.kind == q.kind) && ((q.id == q.id) && ((q.cabin == 0) && ((q.from' == 0) && ((q.size == 0) && ((q.tier == 0) && true))))))) ?_ () ?_ [] ?_)))))
              · as_aux_lemma => kernel_rfl
              · simp [RV, reqOk, reqEq, *]
              · rfl
            · -- usedB q.id = false
              have h14 := bh14
              refine RUN0 9 [] [(2, B false)] ?_ rfl ?_
              · as_aux_lemma => kernel_rfl
              refine ENDOPS (NEXT (RET (OUTR (PASS trivial (FIN (.bool false) ?_ () ?_ [] ?_)))))
              · as_aux_lemma => kernel_rfl
              · simp [RV, reqOk, reqEq, *]
              · rfl
          · exact Bool.noConfusion (bh12.symm.trans bh13)
        · -- q.kind == 5 = false
          have h12 := bh12
          have h12 := ne_of_beq_false h12
          refine REGION [0, 1] rfl (RUN0 2 [] [(1, .p 0 0), (3, .v (.func (.func 59) #[] #[])), (5, I q.kind), (35, B (q.kind == 7))] ?_ rfl ?_)
          · as_aux_lemma => kernel_rfl
          refine ENDOPS (NEXT (IF (q.kind == 7) ?_ (fun bh15 => ?_) (fun bh15 => ?_)))
          · as_aux_lemma => kernel_rfl
          · -- q.kind == 7 = true
            have h15 := bh15
            have h15 := eq_of_beq h15
            refine SEQ (REGION [0, 1, 2, 3, 4, 5, 6, 7, 8, 9, 10, 11, 12, 13] rfl (RUN0 3 [3, 4, 5, 6, 7, 8, 9, 10, 11, 12, 13] [(1, .p 0 0), (40, .v (.func (.func 59) #[] #[])), (42, I q.id)] ?_ rfl ?_))
            · as_aux_lemma => kernel_rfl
            refine OPC (CALL 59 #[vi q.id] (some 43) ?_ [] [] _ rfl (RV (.bool (usedB q.id))) (fun w hw => iReqOk1_c w q.id) (by rintro _ ⟨⟩; exact Nat.le_of_ble_eq_true rfl) ?_)
            · as_aux_lemma => kernel_rfl
            rintro ⟨⟩
            refine RUN0 1 [5, 6, 7, 8, 9, 10, 11, 12, 13] [(1, .p 0 0), (44, B (usedB q.id))] ?_ rfl ?_
            · as_aux_lemma => kernel_rfl
            refine SPLIT (d := 44) (usedB q.id) ?_ (fun bh16 => ?_) (fun bh16 => ?_)
            · as_aux_lemma => kernel_rfl
            · -- usedB q.id = true
              have h16 := bh16
              refine RUN0 6 [11, 12, 13] [(44, B true), (45, .v (.agg #[vi q.kind, vi q.id, vi q.cabin, vi q.from', vi q.size, vi q.tier])), (50, .v (.agg #[vi q.kind, vi q.id, vi 0, vi 0, vi 0, vi 0]))] ?_ rfl ?_
              · as_aux_lemma => kernel_rfl
              refine OPC (RUNV (.binOp .eql 47 (.tmp 45) (.tmp 50) 47) 51 4 ?_ (Nat.le_of_ble_eq_true rfl) (.bool ((q.kind == q.kind) && ((q.id == q.id) && ((q.cabin == 0) && ((q.from' == 0) && ((q.size == 0) && ((q.tier == 0) && true))))))) (runs_eql (xs := [vi q.kind, vi q.id, vi q.cabin, vi q.from', vi q.size, vi q.tier]) (ys := [vi q.kind, vi q.id, vi 0, vi 0, vi 0, vi 0]) (r := (q.kind == q.kind) && ((q.id == q.id) && ((q.cabin == 0) && ((q.from' == 0) && ((q.size == 0) && ((q.tier == 0) && true)))))) ?_ ?_ ?_) ?_)
              · as_aux_lemma => kernel_rfl
              · as_aux_lemma => kernel_rfl
              · as_aux_lemma => kernel_rfl
              · as_aux_lemma => kernel_rfl
              refine RUN0 2 [] [(2, B ((q.kind == q.kind) && ((q.id == q.id) && ((q.cabin == 0) && ((q.from' == 0) && ((q.size == 0) && ((q.tier == 0) && true)))))))] ?_ rfl ?_
              · as_aux_lemma => kernel_rfl
              refine ENDOPS (NEXT (RET (OUTR (PASS trivial (FIN (.bool ((q.kind == q.kind) && ((q.id == q.id) && ((q.cabin == 0) && ((q.from' == 0) && ((q.size == 0) && ((q.tier == 0) && true))))))) ?_ () ?_ [] ?_)))))
              · as_aux_lemma => kernel_rfl
              · simp [RV, reqOk, reqEq, *]
              · rfl
            · -- usedB q.id = false
              have h16 := bh16
              refine RUN0 9 [] [(2, B false)] ?_ rfl ?_
              · as_aux_lemma => kernel_rfl
              refine ENDOPS (NEXT (RET (OUTR (PASS trivial (FIN (.bool false) ?_ () ?_ [] ?_)))))
              · as_aux_lemma => kernel_rfl
              · simp [RV, reqOk, reqEq, *]
              · rfl
          · -- q.kind == 7 = false
            have h15 := bh15
            have h15 := ne_of_beq_false h15
            refine SEQ (REGION [0, 1] rfl (RUN0 2 [] [(1, .p 0 0), (3, .v (.func (.func 59) #[] #[])), (5, I q.kind), (53, B (q.kind == 3))] ?_ rfl ?_))
            · as_aux_lemma => kernel_rfl
            refine ENDOPS (NEXT (IF (q.kind == 3) ?_ (fun bh17 => ?_) (fun bh17 => ?_)))
            · as_aux_lemma => kernel_rfl
            · -- q.kind == 3 = true
              have h17 := bh17
              have h17 := eq_of_beq h17
              refine SEQ (REGION [0, 1, 2, 3, 4, 5, 6, 7, 8, 9, 10, 11, 12, 13, 14, 15, 16, 17, 18, 19, 20, 21] rfl (RUN0 3 [3, 4, 5, 6, 7, 8, 9, 10, 11, 12, 13, 14, 15, 16, 17, 18, 19, 20, 21] [(1, .p 0 0), (3, .v (.func (.func 59) #[] #[])), (55, .v (.func (.func 59) #[] #[])), (57, I q.cabin)] ?_ rfl ?_))
              · as_aux_lemma => kernel_rfl
              refine OPC (CALL 59 #[vi q.cabin] (some 58) ?_ [] [] _ rfl (RV (.bool (usedB q.cabin))) (fun w hw => iReqOk1_c w q.cabin) (by rintro _ ⟨⟩; exact Nat.le_of_ble_eq_true rfl) ?_)
              · as_aux_lemma => kernel_rfl
              rintro ⟨⟩
              refine RUN0 1 [5, 6, 7, 8, 9, 10, 11, 12, 13, 14, 15, 16, 17, 18, 19, 20, 21] [(1, .p 0 0), (3, .v (.func (.func 59) #[] #[])), (59, B (usedB q.cabin))] ?_ rfl ?_
              · as_aux_lemma => kernel_rfl
              refine SPLIT (d := 59) (usedB q.cabin) ?_ (fun bh18 => ?_) (fun bh18 => ?_)
              · as_aux_lemma => kernel_rfl
              · -- usedB q.cabin = true
                have h18 := bh18
                refine RUN0 3 [8, 9, 10, 11, 12, 13, 14, 15, 16, 17, 18, 19, 20, 21] [(1, .p 0 0), (59, B true), (60, .v (.func (.func 59) #[] #[])), (62, I q.size)] ?_ rfl ?_
                · as_aux_lemma => kernel_rfl
                refine OPC (CALL 59 #[vi q.size] (some 63) ?_ [] [] _ rfl (RV (.bool (usedB q.size))) (fun w hw => iReqOk1_c w q.size) (by rintro _ ⟨⟩; exact Nat.le_of_ble_eq_true rfl) ?_)
                · as_aux_lemma => kernel_rfl
                rintro ⟨⟩
                refine RUN0 2 [11, 12, 13, 14, 15, 16, 17, 18, 19, 20, 21] [(1, .p 0 0), (65, B (usedB q.size))] ?_ rfl ?_
                · as_aux_lemma => kernel_rfl
                refine SPLIT (d := 65) (usedB q.size) ?_ (fun bh19 => ?_) (fun bh19 => ?_)
                · as_aux_lemma => kernel_rfl
                · -- usedB q.size = true
                  have h19 := bh19
                  refine RUN0 8 [19, 20, 21] [(65, B true), (66, .v (.agg #[vi q.kind, vi q.id, vi q.cabin, vi q.from', vi q.size, vi q.tier])), (73, .v (.agg #[vi q.kind, vi 0, vi q.cabin, vi 0, vi q.size, vi 0]))] ?_ rfl ?_
                  · as_aux_lemma => kernel_rfl
                  refine OPC (RUNV (.binOp .eql 47 (.tmp 66) (.tmp 73) 47) 74 4 ?_ (Nat.le_of_ble_eq_true rfl) (.bool ((q.kind == q.kind) && ((q.id == 0) && ((q.cabin == q.cabin) && ((q.from' == 0) && ((q.size == q.size) && ((q.tier == 0) && true))))))) (runs_eql (xs := [vi q.kind, vi q.id, vi q.cabin, vi q.from', vi q.size, vi q.tier]) (ys := [vi q.kind, vi 0, vi q.cabin, vi 0, vi q.size, vi 0]) (r := (q.kind == q.kind) && ((q.id == 0) && ((q.cabin == q.cabin) && ((q.from' == 0) && ((q.size == q.size) && ((q.tier == 0) && true)))))) ?_ ?_ ?_) ?_)
                  · as_aux_lemma => kernel_rfl
                  · as_aux_lemma => kernel_rfl
                  · as_aux_lemma => kernel_rfl
                  · as_aux_lemma => kernel_rfl
                  refine RUN0 2 [] [(2, B ((q.kind == q.kind) && ((q.id == 0) && ((q.cabin == q.cabin) && ((q.from' == 0) && ((q.size == q.size) && ((q.tier == 0) && true)))))))] ?_ rfl ?_
                  · as_aux_lemma => kernel_rfl
                  refine ENDOPS (NEXT (RET (OUTR (PASS trivial (FIN (.bool ((q.kind == q.kind) && ((q.id == 0) && ((q.cabin == q.cabin) && ((q.from' == 0) && ((q.size == q.size) && ((q.tier == 0) && true))))))) ?_ () ?_ [] ?_)))))
                  · as_aux_lemma => kernel_rfl
                  · simp [RV, reqOk, reqEq, *]
                  · rfl
                · -- usedB q.size = false
                  have h19 := bh19
                  refine RUN0 11 [] [(2, B false)] ?_ rfl ?_
                  · as_aux_lemma => kernel_rfl
                  refine ENDOPS (NEXT (RET (OUTR (PASS trivial (FIN (.bool false) ?_ () ?_ [] ?_)))))
                  · as_aux_lemma => kernel_rfl
                  · simp [RV, reqOk, reqEq, *]
                  · rfl
              · -- usedB q.cabin = false
                have h18 := bh18
                refine RUN0 17 [] [(2, B false)] ?_ rfl ?_
                · as_aux_lemma => kernel_rfl
                refine ENDOPS (NEXT (RET (OUTR (PASS trivial (FIN (.bool false) ?_ () ?_ [] ?_)))))
                · as_aux_lemma => kernel_rfl
                · simp [RV, reqOk, reqEq, *]
                · rfl
            · -- q.kind == 3 = false
              have h17 := bh17
              have h17 := ne_of_beq_false h17
              refine SEQ (REGION [0, 1] rfl (RUN0 2 [] [(1, .p 0 0), (76, B (q.kind == 6))] ?_ rfl ?_))
              · as_aux_lemma => kernel_rfl
              refine ENDOPS (NEXT (IF (q.kind == 6) ?_ (fun bh20 => ?_) (fun bh20 => ?_)))
              · as_aux_lemma => kernel_rfl
              · -- q.kind == 6 = true
                have h20 := bh20
                have h20 := eq_of_beq h20
                refine SEQ (REGION [0, 1, 2, 3] rfl (RUN0 2 [2, 3] [(78, .v (.agg #[vi q.kind, vi q.id, vi q.cabin, vi q.from', vi q.size, vi q.tier])), (79, .v (.agg #[vi 6, vi 0, vi 0, vi 0, vi 0, vi 0]))] ?_ rfl ?_))
                · as_aux_lemma => kernel_rfl
                refine OPC (RUNV (.binOp .eql 47 (.tmp 78) (.tmp 79) 47) 80 4 ?_ (Nat.le_of_ble_eq_true rfl) (.bool ((q.kind == 6) && ((q.id == 0) && ((q.cabin == 0) && ((q.from' == 0) && ((q.size == 0) && ((q.tier == 0) && true))))))) (runs_eql (xs := [vi q.kind, vi q.id, vi q.cabin, vi q.from', vi q.size, vi q.tier]) (ys := [vi 6, vi 0, vi 0, vi 0, vi 0, vi 0]) (r := (q.kind == 6) && ((q.id == 0) && ((q.cabin == 0) && ((q.from' == 0) && ((q.size == 0) && ((q.tier == 0) && true)))))) ?_ ?_ ?_) ?_)
                · as_aux_lemma => kernel_rfl
                · as_aux_lemma => kernel_rfl
                · as_aux_lemma => kernel_rfl
                · as_aux_lemma => kernel_rfl
                refine RUN0 1 [] [(2, B ((q.kind == 6) && ((q.id == 0) && ((q.cabin == 0) && ((q.from' == 0) && ((q.size == 0) && ((q.tier == 0) && true)))))))] ?_ rfl ?_
                · as_aux_lemma => kernel_rfl
                refine ENDOPS (NEXT (RET (OUTR (PASS trivial (FIN (.bool ((q.kind == 6) && ((q.id == 0) && ((q.cabin == 0) && ((q.from' == 0) && ((q.size == 0) && ((q.tier == 0) && true))))))) ?_ () ?_ [] ?_)))))
                · as_aux_lemma => kernel_rfl
                · simp [RV, reqOk, reqEq, *]
                · rfl
              · -- q.kind == 6 = false
                have h20 := bh20
                have h20 := ne_of_beq_false h20
                refine SKIP (OUTN (NEXT (SEQ (REGION [0] rfl (RUN0 1 [] [(2, B false)] ?_ rfl ?_)))))
                · as_aux_lemma => kernel_rfl
                refine ENDOPS (NEXT (RET (FIN (.bool false) ?_ () ?_ [] ?_)))
                · as_aux_lemma => kernel_rfl
                · simp [RV, reqOk, reqEq, *]
                · rfl

theorem eqReq_c (W : World) (a : Req) (b : Req) : Spec Tryd.prog W [] 25 #[.agg #[vi a.kind, vi a.id, vi a.cabin, vi a.from', vi a.size, vi a.tier], .agg #[vi b.kind, vi b.id, vi b.cabin, vi b.from', vi b.size, vi b.tier]] (RV (.bool (eqReq a b))) := by
  refine ENTER0 (N := 35) (vs := [.agg #[vi a.kind, vi a.id, vi a.cabin, vi a.from', vi a.size, vi a.tier], .agg #[vi b.kind, vi b.id, vi b.cabin, vi b.from', vi b.size, vi b.tier]]) Tryd.func25 rfl rfl (Nat.le_of_ble_eq_true rfl) ?_
  refine SEQ (REGION [0, 1, 2] rfl (RUN 3 [] [(2, .p 0 0), (3, .p 1 0)] [(47, [vi a.kind, vi a.id, vi a.cabin, vi a.from', vi a.size, vi a.tier]), (47, [vi b.kind, vi b.id, vi b.cabin, vi b.from', vi b.size, vi b.tier])] ?_ rfl ?_))
  · as_aux_lemma => kernel_rfl
  refine ENDOPS (NEXT (SEQ (SEQ (REGION [0, 1, 2, 3, 4] rfl (RUN0 5 [] [(2, .p 0 0), (3, .p 1 0), (9, B (a.kind != b.kind))] ?_ rfl ?_)))))
  · as_aux_lemma => kernel_rfl
  refine ENDOPS (NEXT (IF (a.kind != b.kind) ?_ (fun bh1 => ?_) (fun bh1 => ?_)))
  · as_aux_lemma => kernel_rfl
  · -- a.kind != b.kind = true
    have h1 := bh1
    have h1 := bne_iff_ne.1 h1
    refine SEQ (REGION [0] rfl (RUN0 1 [] [(4, B false)] ?_ rfl ?_))
    · as_aux_lemma => kernel_rfl
    refine ENDOPS (NEXT (RET (PASS trivial (FIN (.bool false) ?_ () ?_ [] ?_))))
    · as_aux_lemma => kernel_rfl
    · simp [RV, eqReq, *]
    · rfl
  · -- a.kind != b.kind = false
    have h1 := bh1
    have h1 := bneF h1
    refine SKIP (NEXT (SEQ (SEQ (REGION [0, 1, 2, 3, 4] rfl (RUN0 5 [] [(2, .p 0 0), (3, .p 1 0), (14, B (a.id != b.id))] ?_ rfl ?_)))))
    · as_aux_lemma => kernel_rfl
    refine ENDOPS (NEXT (IF (a.id != b.id) ?_ (fun bh2 => ?_) (fun bh2 => ?_)))
    · as_aux_lemma => kernel_rfl
    · -- a.id != b.id = true
      have h2 := bh2
      have h2 := bne_iff_ne.1 h2
      refine SEQ (REGION [0] rfl (RUN0 1 [] [(4, B false)] ?_ rfl ?_))
      · as_aux_lemma => kernel_rfl
      refine ENDOPS (NEXT (RET (PASS trivial (FIN (.bool false) ?_ () ?_ [] ?_))))
      · as_aux_lemma => kernel_rfl
      · simp [RV, eqReq, *]
      · rfl
    · -- a.id != b.id = false
      have h2 := bh2
      have h2 := bneF h2
      refine SKIP (NEXT (SEQ (SEQ (REGION [0, 1, 2, 3, 4] rfl (RUN0 5 [] [(2, .p 0 0), (3, .p 1 0), (19, B (a.cabin != b.cabin))] ?_ rfl ?_)))))
      · as_aux_lemma => kernel_rfl
      refine ENDOPS (NEXT (IF (a.cabin != b.cabin) ?_ (fun bh3 => ?_) (fun bh3 => ?_)))
      · as_aux_lemma => kernel_rfl
      · -- a.cabin != b.cabin = true
        have h3 := bh3
        have h3 := bne_iff_ne.1 h3
        refine SEQ (REGION [0] rfl (RUN0 1 [] [(4, B false)] ?_ rfl ?_))
        · as_aux_lemma => kernel_rfl
        refine ENDOPS (NEXT (RET (PASS trivial (FIN (.bool false) ?_ () ?_ [] ?_))))
        · as_aux_lemma => kernel_rfl
        · simp [RV, eqReq, *]
        · rfl
      · -- a.cabin != b.cabin = false
        have h3 := bh3
        have h3 := bneF h3
        refine SKIP (NEXT (SEQ (SEQ (REGION [0, 1, 2, 3, 4] rfl (RUN0 5 [] [(2, .p 0 0), (3, .p 1 0), (24, B (a.from' != b.from'))] ?_ rfl ?_)))))
        · as_aux_lemma => kernel_rfl
        refine ENDOPS (NEXT (IF (a.from' != b.from') ?_ (fun bh4 => ?_) (fun bh4 => ?_)))
        · as_aux_lemma => kernel_rfl
        · -- a.from' != b.from' = true
          have h4 := bh4
          have h4 := bne_iff_ne.1 h4
          refine SEQ (REGION [0] rfl (RUN0 1 [] [(4, B false)] ?_ rfl ?_))
          · as_aux_lemma => kernel_rfl
          refine ENDOPS (NEXT (RET (PASS trivial (FIN (.bool false) ?_ () ?_ [] ?_))))
          · as_aux_lemma => kernel_rfl
          · simp [RV, eqReq, *]
          · rfl
        · -- a.from' != b.from' = false
          have h4 := bh4
          have h4 := bneF h4
          refine SKIP (NEXT (SEQ (SEQ (REGION [0, 1, 2, 3, 4] rfl (RUN0 5 [] [(2, .p 0 0), (3, .p 1 0), (29, B (a.size != b.size))] ?_ rfl ?_)))))
          · as_aux_lemma => kernel_rfl
          refine ENDOPS (NEXT (IF (a.size != b.size) ?_ (fun bh5 => ?_) (fun bh5 => ?_)))
          · as_aux_lemma => kernel_rfl
          · -- a.size != b.size = true
            have h5 := bh5
            have h5 := bne_iff_ne.1 h5
            refine SEQ (REGION [0] rfl (RUN0 1 [] [(4, B false)] ?_ rfl ?_))
            · as_aux_lemma => kernel_rfl
            refine ENDOPS (NEXT (RET (PASS trivial (FIN (.bool false) ?_ () ?_ [] ?_))))
            · as_aux_lemma => kernel_rfl
            · simp [RV, eqReq, *]
            · rfl
          · -- a.size != b.size = false
            have h5 := bh5
            have h5 := bneF h5
            refine SKIP (NEXT (SEQ (SEQ (REGION [0, 1, 2, 3, 4] rfl (RUN0 5 [] [(34, B (a.tier != b.tier))] ?_ rfl ?_)))))
            · as_aux_lemma => kernel_rfl
            refine ENDOPS (NEXT (IF (a.tier != b.tier) ?_ (fun bh6 => ?_) (fun bh6 => ?_)))
            · as_aux_lemma => kernel_rfl
            · -- a.tier != b.tier = true
              have h6 := bh6
              have h6 := bne_iff_ne.1 h6
              refine SEQ (REGION [0] rfl (RUN0 1 [] [(4, B false)] ?_ rfl ?_))
              · as_aux_lemma => kernel_rfl
              refine ENDOPS (NEXT (RET (PASS trivial (FIN (.bool false) ?_ () ?_ [] ?_))))
              · as_aux_lemma => kernel_rfl
              · simp [RV, eqReq, *]
              · rfl
            · -- a.tier != b.tier = false
              have h6 := bh6
              have h6 := bneF h6
              refine SKIP (NEXT (SEQ (REGION [0] rfl (RUN0 1 [] [(4, B true)] ?_ rfl ?_))))
              · as_aux_lemma => kernel_rfl
              refine ENDOPS (NEXT (RET (FIN (.bool true) ?_ () ?_ [] ?_)))
              · as_aux_lemma => kernel_rfl
              · simp [RV, eqReq, *]
              · rfl

theorem toReq_c (W : World) (a : Req) : Spec Tryd.prog W [] 37 #[.agg #[vi a.kind, vi a.id, vi a.cabin, vi a.from', vi a.size, vi a.tier]] (RV (.agg #[vi a.kind, vi a.id, vi a.cabin, vi a.from', vi a.size, vi a.tier])) := by
  refine ENTER0 (N := 23) (vs := [.agg #[vi a.kind, vi a.id, vi a.cabin, vi a.from', vi a.size, vi a.tier]]) Tryd.func37 rfl rfl (Nat.le_of_ble_eq_true rfl) ?_
  refine SEQ (REGION [0, 1] rfl (RUN 2 [] [(1, .p 0 0), (2, .p 1 0)] [(60, [vi a.kind, vi a.id, vi a.cabin, vi a.from', vi a.size, vi a.tier]), (47, [vi 0, vi 0, vi 0, vi 0, vi 0, vi 0])] ?_ rfl ?_))
  · as_aux_lemma => kernel_rfl
  refine ENDOPS (NEXT (SEQ (REGION [0] rfl (RUN 1 [] [(1, .p 0 0), (2, .p 1 0), (3, .p 2 0)] [(60, [vi a.kind, vi a.id, vi a.cabin, vi a.from', vi a.size, vi a.tier]), (47, [vi 0, vi 0, vi 0, vi 0, vi 0, vi 0]), (47, [vi 0, vi 0, vi 0, vi 0, vi 0, vi 0])] ?_ rfl ?_))))
  · as_aux_lemma => kernel_rfl
  refine ENDOPS (NEXT (SEQ (REGION [0, 1, 2, 3] rfl (RUN 4 [] [(1, .p 0 0), (2, .p 1 0), (3, .p 2 0)] [(60, [vi a.kind, vi a.id, vi a.cabin, vi a.from', vi a.size, vi a.tier]), (47, [vi 0, vi 0, vi 0, vi 0, vi 0, vi 0]), (47, [vi a.kind, vi 0, vi 0, vi 0, vi 0, vi 0])] ?_ rfl ?_))))
  · as_aux_lemma => kernel_rfl
  refine ENDOPS (NEXT (SEQ (REGION [0, 1, 2, 3] rfl (RUN 4 [] [(1, .p 0 0), (2, .p 1 0), (3, .p 2 0)] [(60, [vi a.kind, vi a.id, vi a.cabin, vi a.from', vi a.size, vi a.tier]), (47, [vi 0, vi 0, vi 0, vi 0, vi 0, vi 0]), (47, [vi a.kind, vi a.id, vi 0, vi 0, vi 0, vi 0])] ?_ rfl ?_))))
  · as_aux_lemma => kernel_rfl
  refine ENDOPS (NEXT (SEQ (REGION [0, 1, 2, 3] rfl (RUN 4 [] [(1, .p 0 0), (2, .p 1 0), (3, .p 2 0)] [(60, [vi a.kind, vi a.id, vi a.cabin, vi a.from', vi a.size, vi a.tier]), (47, [vi 0, vi 0, vi 0, vi 0, vi 0, vi 0]), (47, [vi a.kind, vi a.id, vi a.cabin, vi 0, vi 0, vi 0])] ?_ rfl ?_))))
  · as_aux_lemma => kernel_rfl
  refine ENDOPS (NEXT (SEQ (REGION [0, 1, 2, 3] rfl (RUN 4 [] [(1, .p 0 0), (2, .p 1 0), (3, .p 2 0)] [(60, [vi a.kind, vi a.id, vi a.cabin, vi a.from', vi a.size, vi a.tier]), (47, [vi 0, vi 0, vi 0, vi 0, vi 0, vi 0]), (47, [vi a.kind, vi a.id, vi a.cabin, vi a.from', vi 0, vi 0])] ?_ rfl ?_))))
  · as_aux_lemma => kernel_rfl
  refine ENDOPS (NEXT (SEQ (REGION [0, 1, 2, 3] rfl (RUN 4 [] [(1, .p 0 0), (2, .p 1 0), (3, .p 2 0)] [(60, [vi a.kind, vi a.id, vi a.cabin, vi a.from', vi a.size, vi a.tier]), (47, [vi 0, vi 0, vi 0, vi 0, vi 0, vi 0]), (47, [vi a.kind, vi a.id, vi a.cabin, vi a.from', vi a.size, vi 0])] ?_ rfl ?_))))
  · as_aux_lemma => kernel_rfl
  refine ENDOPS (NEXT (SEQ (REGION [0, 1, 2, 3] rfl (RUN 4 [] [(2, .p 1 0), (3, .p 2 0)] [(60, [vi a.kind, vi a.id, vi a.cabin, vi a.from', vi a.size, vi a.tier]), (47, [vi 0, vi 0, vi 0, vi 0, vi 0, vi 0]), (47, [vi a.kind, vi a.id, vi a.cabin, vi a.from', vi a.size, vi a.tier])] ?_ rfl ?_))))
  · as_aux_lemma => kernel_rfl
  refine ENDOPS (NEXT (SEQ (REGION [0, 1] rfl (RUN 2 [] [(2, .p 1 0)] [(60, [vi a.kind, vi a.id, vi a.cabin, vi a.from', vi a.size, vi a.tier]), (47, [vi a.kind, vi a.id, vi a.cabin, vi a.from', vi a.size, vi a.tier]), (47, [vi a.kind, vi a.id, vi a.cabin, vi a.from', vi a.size, vi a.tier])] ?_ rfl ?_))))
  · as_aux_lemma => kernel_rfl
  refine ENDOPS (NEXT (RET (FIN (.agg #[vi a.kind, vi a.id, vi a.cabin, vi a.from', vi a.size, vi a.tier]) ?_ () ?_ [] ?_)))
  · as_aux_lemma => kernel_rfl
  · rfl
  · rfl

theorem l29Word_c (W : World) (kind : Int) (hk : 0 ≤ kind ∧ kind < 8) : Spec Tryd.prog W [] 48 #[vi kind] (RV (.string (bs (reqWord kind)))) := by
  refine ENTER0 (N := 7) (vs := [vi kind]) Tryd.func48 rfl rfl (Nat.le_of_ble_eq_true rfl) ?_
  refine SEQ (REGION [0] rfl (RUN0 1 [] [(0, I kind)] ?_ rfl ?_))
  · as_aux_lemma => kernel_rfl
  refine ENDOPS (NEXT (SEQ (REGION [0, 1, 2, 3, 4] rfl (OPC (BUILDS 41 8 #[(0, .const (.string (bs ([])))), (1, .const (.string (bs ([106, 111, 105, 110])))), (2, .const (.string (bs ([99, 97, 110, 99, 101, 108])))), (3, .const (.string (bs ([102, 114, 101, 101])))), (4, .const (.string (bs ([97, 99, 99, 101, 112, 116])))), (5, .const (.string (bs ([100, 101, 99, 108, 105, 110, 101])))), (6, .const (.string (bs ([116, 105, 99, 107])))), (7, .const (.string (bs ([112, 105, 99, 107]))))] 3 41 ?_ (Nat.le_of_ble_eq_true rfl) 9 [.string (bs ([])), .string (bs ([106, 111, 105, 110])), .string (bs ([99, 97, 110, 99, 101, 108])), .string (bs ([102, 114, 101, 101])), .string (bs ([97, 99, 99, 101, 112, 116])), .string (bs ([100, 101, 99, 108, 105, 110, 101])), .string (bs ([116, 105, 99, 107])), .string (bs ([112, 105, 99, 107]))] ?_ strL ([[], [106, 111, 105, 110], [99, 97, 110, 99, 101, 108], [102, 114, 101, 101], [97, 99, 99, 101, 112, 116], [100, 101, 99, 108, 105, 110, 101], [116, 105, 99, 107], [112, 105, 99, 107]] : List (List UInt8)) rfl (by simp only [maxLen]; omega) [] [] _ rfl (flatRep rfl) (fun a1 ha2 => ?_))))))
  · as_aux_lemma => kernel_rfl
  · as_aux_lemma => kernel_rfl
  refine RUN0 1 [2, 3, 4] [(3, .v (.slice a1 8 8)), (4, I kind)] ?_ rfl ?_
  · as_aux_lemma => kernel_rfl
  refine FACT (8 = ([[], [106, 111, 105, 110], [99, 97, 110, 99, 101, 108], [102, 114, 101, 101], [97, 99, 99, 101, 112, 116], [100, 101, 99, 108, 105, 110, 101], [116, 105, 99, 107], [112, 105, 99, 107]] : List (List UInt8)).length) (fun w hw => (SlO.lenE (hw.own 0 rfl)).1) (fun hln3 => ?_)
  obtain ⟨x4, hx5⟩ : ∃ y, ([[], [106, 111, 105, 110], [99, 97, 110, 99, 101, 108], [102, 114, 101, 101], [97, 99, 99, 101, 112, 116], [100, 101, 99, 108, 105, 110, 101], [116, 105, 99, 107], [112, 105, 99, 107]] : List (List UInt8))[kind.toNat]? = some y := ⟨_, List.getElem?_eq_getElem (by omega)⟩
  refine OPC (INDEX 41 (.tmp 3) (.tmp 4) 5 0 ?_ (Nat.le_of_ble_eq_true rfl) a1 8 8 .i64 kind 9 1 ?_ ?_ ?_ ?_ ha2 (by omega) (by omega) ?_)
  · as_aux_lemma => kernel_rfl
  · as_aux_lemma => kernel_rfl
  · as_aux_lemma => kernel_rfl
  · as_aux_lemma => kernel_rfl
  · as_aux_lemma => kernel_rfl
  refine OPC (LOADE 9 (.tmp 5) 6 9 ?_ (Nat.le_of_ble_eq_true rfl) a1 (kind.toNat * 1) 0 [.string (bs x4)] (.string (bs x4)) ?_ (fun w hw => (Rd.own (hw.own 0 rfl)).flat hx5) ?_ ?_)
  · as_aux_lemma => kernel_rfl
  · as_aux_lemma => kernel_rfl
  · as_aux_lemma => kernel_rfl
  refine RUN0 1 [] [(2, .v (.string (bs x4)))] ?_ rfl ?_
  · as_aux_lemma => kernel_rfl
  refine ENDOPS (NEXT (RET (FIN (.string (bs x4)) ?_ () ?_ [] ?_)))
  · as_aux_lemma => kernel_rfl
  · (rw [reqWord_of hx5]; rfl)
  · rfl

theorem sReqLine_c (W : World) (q : Req) : Spec Tryd.prog W [] 36 #[.agg #[vi q.kind, vi q.id, vi q.cabin, vi q.from', vi q.size, vi q.tier]] (RV (.string (bs (reqLine q)))) := by
  refine ENTER0 (N := 67) (vs := [.agg #[vi q.kind, vi q.id, vi q.cabin, vi q.from', vi q.size, vi q.tier]]) Tryd.func36 rfl rfl (Nat.le_of_ble_eq_true rfl) ?_
  refine SEQ (REGION [0, 1] rfl (RUN 2 [] [(1, .p 0 0)] [(47, [vi q.kind, vi q.id, vi q.cabin, vi q.from', vi q.size, vi q.tier])] ?_ rfl ?_))
  · as_aux_lemma => kernel_rfl
  refine ENDOPS (NEXT (SEQ (SEQ (REGION [0, 1, 2] rfl (RUN0 1 [1, 2] [(1, .p 0 0), (5, .v (.agg #[vi q.kind, vi q.id, vi q.cabin, vi q.from', vi q.size, vi q.tier]))] ?_ rfl ?_)))))
  · as_aux_lemma => kernel_rfl
  refine OPC (CALL 52 #[.agg #[vi q.kind, vi q.id, vi q.cabin, vi q.from', vi q.size, vi q.tier]] (some 6) ?_ [] [] _ rfl (RV (.bool (reqOk q))) (fun w hw => sReqOk_c w q) (by rintro _ ⟨⟩; exact Nat.le_of_ble_eq_true rfl) ?_)
  · as_aux_lemma => kernel_rfl
  rintro ⟨⟩
  refine RUN0 1 [] [(1, .p 0 0), (7, B (!(reqOk q)))] ?_ rfl ?_
  · as_aux_lemma => kernel_rfl
  refine ENDOPS (NEXT (IF (!(reqOk q)) ?_ (fun bh1 => ?_) (fun bh1 => ?_)))
  · as_aux_lemma => kernel_rfl
  · -- !(reqOk q) = true
    have h1 := bh1
    have h1 := notT h1
    refine SEQ (REGION [0] rfl (RUN0 1 [] [(2, .v (.string (bs ([]))))] ?_ rfl ?_))
    · as_aux_lemma => kernel_rfl
    refine ENDOPS (NEXT (RET (PASS trivial (FIN (.string (bs ([]))) ?_ () ?_ [] ?_))))
    · as_aux_lemma => kernel_rfl
    · (first | (simp [RV, reqLine, reqWord, reqWords, *]; done) | (have h7 : q.kind = 7 := (by omega); simp [RV, reqLine, reqWord, reqWords, *]; done) | (have h9 : ¬ q.from' = -1 := (by omega); simp [RV, reqLine, reqWord, reqWords, *]; done) | (have h9 : q.from' = -1 := (by omega); simp [RV, reqLine, reqWord, reqWords, *]))
    · rfl
  · -- !(reqOk q) = false
    have h1 := bh1
    have h1 := notF h1
    have hq := reqOk_rng h1
    refine SKIP (NEXT (SEQ (REGION [0, 1, 2, 3] rfl (RUN0 2 [2, 3] [(1, .p 0 0), (9, I q.kind)] ?_ rfl ?_))))
    · as_aux_lemma => kernel_rfl
    refine OPC (CALL 48 #[vi q.kind] (some 10) ?_ [] [] _ rfl (RV (.string (bs (reqWord q.kind)))) (fun w hw => l29Word_c w q.kind (by omega)) (by rintro _ ⟨⟩; exact Nat.le_of_ble_eq_true rfl) ?_)
    · as_aux_lemma => kernel_rfl
    rintro ⟨⟩
    have hr2 := reqWord_len q.kind
    refine RUN0 1 [] [(1, .p 0 0), (3, .v (.string (bs (reqWord q.kind))))] ?_ rfl ?_
    · as_aux_lemma => kernel_rfl
    refine ENDOPS (NEXT (SEQ (SEQ (REGION [0, 1] rfl (RUN0 2 [] [(1, .p 0 0), (3, .v (.string (bs (reqWord q.kind)))), (12, I q.kind)] ?_ rfl ?_)))))
    · as_aux_lemma => kernel_rfl
    refine ENDOPS (NEXT (BLOCK (SEQ (REGION [0, 1] rfl (RUN0 2 [] [(1, .p 0 0), (3, .v (.string (bs (reqWord q.kind)))), (12, I q.kind), (13, B (q.kind == 1))] ?_ rfl ?_)))))
    · as_aux_lemma => kernel_rfl
    refine ENDOPS (NEXT (IF (q.kind == 1) ?_ (fun bh3 => ?_) (fun bh3 => ?_)))
    · as_aux_lemma => kernel_rfl
    · -- q.kind == 1 = true
      have h3 := bh3
      have h3 := eq_of_beq h3
      refine SEQ (REGION [0] rfl (RUN0 1 [] [(1, .p 0 0), (3, .v (.string (bs (reqWord q.kind)))), (4, .v (.string (bs ([45]))))] ?_ rfl ?_))
      · as_aux_lemma => kernel_rfl
      refine ENDOPS (NEXT (SEQ (SEQ (REGION [0, 1, 2] rfl (RUN0 3 [] [(1, .p 0 0), (3, .v (.string (bs (reqWord q.kind)))), (4, .v (.string (bs ([45])))), (17, B (decide (q.from' ≥ 0)))] ?_ rfl ?_)))))
      · as_aux_lemma => kernel_rfl
      refine ENDOPS (NEXT (IF (decide (q.from' ≥ 0)) ?_ (fun bh4 => ?_) (fun bh4 => ?_)))
      · as_aux_lemma => kernel_rfl
      · -- decide (q.from' ≥ 0) = true
        have h4 := bh4
        have h4 := of_decide_eq_true h4
        refine REGION [0, 1, 2, 3] rfl (RUN0 2 [2, 3] [(1, .p 0 0), (3, .v (.string (bs (reqWord q.kind)))), (19, I q.from')] ?_ rfl ?_)
        · as_aux_lemma => kernel_rfl
        refine OPC (CALL 31 #[vi q.from'] (some 20) ?_ [] [] _ rfl (RV (.string (bs (Lib.itoa q.from')))) (fun w hw => sDigits_c w q.from' (by first | assumption | exact wr_range _ | (unfold i64R at *; omega) | (simp only [i64R] at *; omega))) (by rintro _ ⟨⟩; exact Nat.le_of_ble_eq_true rfl) ?_)
        · as_aux_lemma => kernel_rfl
        rintro ⟨⟩
        have hr5 := itoa_len (n := q.from') (by first | assumption | exact wr_range _ | (unfold i64R at *; omega) | (simp only [i64R] at *; omega))
        refine RUN0 1 [] [(1, .p 0 0), (3, .v (.string (bs (reqWord q.kind)))), (4, .v (.string (bs (Lib.itoa q.from'))))] ?_ rfl ?_
        · as_aux_lemma => kernel_rfl
        refine ENDOPS (NEXT (SEQ (REGIONQ ?_ ?_ ?_)))
        · as_aux_lemma => kernel_rfl
        · as_aux_lemma => kernel_rfl
        refine QRUN 1 0 1 [(1, .p 0 0), (4, .v (.string (bs (Lib.itoa q.from')))), (21, .v (.string (bs (reqWord q.kind))))] ?_ rfl ?_
        · as_aux_lemma => kernel_rfl
        refine QRUNV (.binOp .add 9 (.tmp 21) (.const (.string (bs ([32])))) 9) 22 9 ?_ (Nat.le_of_ble_eq_true rfl) (.string (bs ((reqWord q.kind) ++ ([32])))) (runs_scat (a := reqWord q.kind) (b := [32]) ?_ ?_ (by first | omega | (simp only [List.length_append, List.length_cons, List.length_nil, List.length_take, List.length_drop] at *; omega))) ?_
        · as_aux_lemma => kernel_rfl
        · as_aux_lemma => kernel_rfl
        · as_aux_lemma => kernel_rfl
        refine QRUN 2 2 4 [(1, .p 0 0), (4, .v (.string (bs (Lib.itoa q.from')))), (22, .v (.string (bs ((reqWord q.kind) ++ ([32]))))), (24, I q.id)] ?_ rfl ?_
        · as_aux_lemma => kernel_rfl
        have hr6 := itoa_len (n := q.id) (by first | assumption | exact wr_range _ | (unfold i64R at *; omega) | (simp only [i64R] at *; omega))
        refine QCALL 31 #[vi q.id] (some 25) ?_ (.string (bs (Lib.itoa q.id))) (fun w hw => sDigits_c w q.id (by first | assumption | exact wr_range _ | (unfold i64R at *; omega) | (simp only [i64R] at *; omega))) (by rintro _ ⟨⟩; exact Nat.le_of_ble_eq_true rfl) ?_
        · as_aux_lemma => kernel_rfl
        refine QRUNV (.binOp .add 9 (.tmp 22) (.tmp 25) 9) 26 9 ?_ (Nat.le_of_ble_eq_true rfl) (.string (bs (((reqWord q.kind) ++ ([32])) ++ (Lib.itoa q.id)))) (runs_scat (a := (reqWord q.kind) ++ ([32])) (b := Lib.itoa q.id) ?_ ?_ (by first | omega | (simp only [List.length_append, List.length_cons, List.length_nil, List.length_take, List.length_drop] at *; omega))) ?_
        · as_aux_lemma => kernel_rfl
        · as_aux_lemma => kernel_rfl
        · as_aux_lemma => kernel_rfl
        refine QRUNV (.binOp .add 9 (.tmp 26) (.const (.string (bs ([32])))) 9) 27 9 ?_ (Nat.le_of_ble_eq_true rfl) (.string (bs ((((reqWord q.kind) ++ ([32])) ++ (Lib.itoa q.id)) ++ ([32])))) (runs_scat (a := ((reqWord q.kind) ++ ([32])) ++ (Lib.itoa q.id)) (b := [32]) ?_ ?_ (by first | omega | (simp only [List.length_append, List.length_cons, List.length_nil, List.length_take, List.length_drop] at *; omega))) ?_
        · as_aux_lemma => kernel_rfl
        · as_aux_lemma => kernel_rfl
        · as_aux_lemma => kernel_rfl
        refine QRUN 2 7 9 [(1, .p 0 0), (4, .v (.string (bs (Lib.itoa q.from')))), (27, .v (.string (bs ((((reqWord q.kind) ++ ([32])) ++ (Lib.itoa q.id)) ++ ([32]))))), (29, I q.cabin)] ?_ rfl ?_
        · as_aux_lemma => kernel_rfl
        have hr7 := itoa_len (n := q.cabin) (by first | assumption | exact wr_range _ | (unfold i64R at *; omega) | (simp only [i64R] at *; omega))
        refine QCALL 31 #[vi q.cabin] (some 30) ?_ (.string (bs (Lib.itoa q.cabin))) (fun w hw => sDigits_c w q.cabin (by first | assumption | exact wr_range _ | (unfold i64R at *; omega) | (simp only [i64R] at *; omega))) (by rintro _ ⟨⟩; exact Nat.le_of_ble_eq_true rfl) ?_
        · as_aux_lemma => kernel_rfl
        refine QRUNV (.binOp .add 9 (.tmp 27) (.tmp 30) 9) 31 9 ?_ (Nat.le_of_ble_eq_true rfl) (.string (bs (((((reqWord q.kind) ++ ([32])) ++ (Lib.itoa q.id)) ++ ([32])) ++ (Lib.itoa q.cabin)))) (runs_scat (a := (((reqWord q.kind) ++ ([32])) ++ (Lib.itoa q.id)) ++ ([32])) (b := Lib.itoa q.cabin) ?_ ?_ (by first | omega | (simp only [List.length_append, List.length_cons, List.length_nil, List.length_take, List.length_drop] at *; omega))) ?_
        · as_aux_lemma => kernel_rfl
        · as_aux_lemma => kernel_rfl
        · as_aux_lemma => kernel_rfl
        refine QRUNV (.binOp .add 9 (.tmp 31) (.const (.string (bs ([32])))) 9) 32 9 ?_ (Nat.le_of_ble_eq_true rfl) (.string (bs ((((((reqWord q.kind) ++ ([32])) ++ (Lib.itoa q.id)) ++ ([32])) ++ (Lib.itoa q.cabin)) ++ ([32])))) (runs_scat (a := ((((reqWord q.kind) ++ ([32])) ++ (Lib.itoa q.id)) ++ ([32])) ++ (Lib.itoa q.cabin)) (b := [32]) ?_ ?_ (by first | omega | (simp only [List.length_append, List.length_cons, List.length_nil, List.length_take, List.length_drop] at *; omega))) ?_
        · as_aux_lemma => kernel_rfl
        · as_aux_lemma => kernel_rfl
        · as_aux_lemma => kernel_rfl
        refine QRUN 1 12 13 [(1, .p 0 0), (32, .v (.string (bs ((((((reqWord q.kind) ++ ([32])) ++ (Lib.itoa q.id)) ++ ([32])) ++ (Lib.itoa q.cabin)) ++ ([32]))))), (33, .v (.string (bs (Lib.itoa q.from'))))] ?_ rfl ?_
        · as_aux_lemma => kernel_rfl
        refine QRUNV (.binOp .add 9 (.tmp 32) (.tmp 33) 9) 34 9 ?_ (Nat.le_of_ble_eq_true rfl) (.string (bs (((((((reqWord q.kind) ++ ([32])) ++ (Lib.itoa q.id)) ++ ([32])) ++ (Lib.itoa q.cabin)) ++ ([32])) ++ (Lib.itoa q.from')))) (runs_scat (a := (((((reqWord q.kind) ++ ([32])) ++ (Lib.itoa q.id)) ++ ([32])) ++ (Lib.itoa q.cabin)) ++ ([32])) (b := Lib.itoa q.from') ?_ ?_ (by first | omega | (simp only [List.length_append, List.length_cons, List.length_nil, List.length_take, List.length_drop] at *; omega))) ?_
        · as_aux_lemma => kernel_rfl
        · as_aux_lemma => kernel_rfl
        · as_aux_lemma => kernel_rfl
        refine QRUNV (.binOp .add 9 (.tmp 34) (.const (.string (bs ([32])))) 9) 35 9 ?_ (Nat.le_of_ble_eq_true rfl) (.string (bs ((((((((reqWord q.kind) ++ ([32])) ++ (Lib.itoa q.id)) ++ ([32])) ++ (Lib.itoa q.cabin)) ++ ([32])) ++ (Lib.itoa q.from')) ++ ([32])))) (runs_scat (a := ((((((reqWord q.kind) ++ ([32])) ++ (Lib.itoa q.id)) ++ ([32])) ++ (Lib.itoa q.cabin)) ++ ([32])) ++ (Lib.itoa q.from')) (b := [32]) ?_ ?_ (by first | omega | (simp only [List.length_append, List.length_cons, List.length_nil, List.length_take, List.length_drop] at *; omega))) ?_
        · as_aux_lemma => kernel_rfl
        · as_aux_lemma => kernel_rfl
        · as_aux_lemma => kernel_rfl
        refine QRUN 2 15 17 [(1, .p 0 0), (35, .v (.string (bs ((((((((reqWord q.kind) ++ ([32])) ++ (Lib.itoa q.id)) ++ ([32])) ++ (Lib.itoa q.cabin)) ++ ([32])) ++ (Lib.itoa q.from')) ++ ([32]))))), (37, I q.size)] ?_ rfl ?_
        · as_aux_lemma => kernel_rfl
        have hr8 := itoa_len (n := q.size) (by first | assumption | exact wr_range _ | (unfold i64R at *; omega) | (simp only [i64R] at *; omega))
        refine QCALL 31 #[vi q.size] (some 38) ?_ (.string (bs (Lib.itoa q.size))) (fun w hw => sDigits_c w q.size (by first | assumption | exact wr_range _ | (unfold i64R at *; omega) | (simp only [i64R] at *; omega))) (by rintro _ ⟨⟩; exact Nat.le_of_ble_eq_true rfl) ?_
        · as_aux_lemma => kernel_rfl
        refine QRUNV (.binOp .add 9 (.tmp 35) (.tmp 38) 9) 39 9 ?_ (Nat.le_of_ble_eq_true rfl) (.string (bs (((((((((reqWord q.kind) ++ ([32])) ++ (Lib.itoa q.id)) ++ ([32])) ++ (Lib.itoa q.cabin)) ++ ([32])) ++ (Lib.itoa q.from')) ++ ([32])) ++ (Lib.itoa q.size)))) (runs_scat (a := (((((((reqWord q.kind) ++ ([32])) ++ (Lib.itoa q.id)) ++ ([32])) ++ (Lib.itoa q.cabin)) ++ ([32])) ++ (Lib.itoa q.from')) ++ ([32])) (b := Lib.itoa q.size) ?_ ?_ (by first | omega | (simp only [List.length_append, List.length_cons, List.length_nil, List.length_take, List.length_drop] at *; omega))) ?_
        · as_aux_lemma => kernel_rfl
        · as_aux_lemma => kernel_rfl
        · as_aux_lemma => kernel_rfl
        refine QRUNV (.binOp .add 9 (.tmp 39) (.const (.string (bs ([32])))) 9) 40 9 ?_ (Nat.le_of_ble_eq_true rfl) (.string (bs ((((((((((reqWord q.kind) ++ ([32])) ++ (Lib.itoa q.id)) ++ ([32])) ++ (Lib.itoa q.cabin)) ++ ([32])) ++ (Lib.itoa q.from')) ++ ([32])) ++ (Lib.itoa q.size)) ++ ([32])))) (runs_scat (a := ((((((((reqWord q.kind) ++ ([32])) ++ (Lib.itoa q.id)) ++ ([32])) ++ (Lib.itoa q.cabin)) ++ ([32])) ++ (Lib.itoa q.from')) ++ ([32])) ++ (Lib.itoa q.size)) (b := [32]) ?_ ?_ (by first | omega | (simp only [List.length_append, List.length_cons, List.length_nil, List.length_take, List.length_drop] at *; omega))) ?_
        · as_aux_lemma => kernel_rfl
        · as_aux_lemma => kernel_rfl
        · as_aux_lemma => kernel_rfl
        refine QRUN 2 20 22 [(40, .v (.string (bs ((((((((((reqWord q.kind) ++ ([32])) ++ (Lib.itoa q.id)) ++ ([32])) ++ (Lib.itoa q.cabin)) ++ ([32])) ++ (Lib.itoa q.from')) ++ ([32])) ++ (Lib.itoa q.size)) ++ ([32]))))), (42, I q.tier)] ?_ rfl ?_
        · as_aux_lemma => kernel_rfl
        have hr9 := itoa_len (n := q.tier) (by first | assumption | exact wr_range _ | (unfold i64R at *; omega) | (simp only [i64R] at *; omega))
        refine QCALL 31 #[vi q.tier] (some 43) ?_ (.string (bs (Lib.itoa q.tier))) (fun w hw => sDigits_c w q.tier (by first | assumption | exact wr_range _ | (unfold i64R at *; omega) | (simp only [i64R] at *; omega))) (by rintro _ ⟨⟩; exact Nat.le_of_ble_eq_true rfl) ?_
        · as_aux_lemma => kernel_rfl
        refine QRUNV (.binOp .add 9 (.tmp 40) (.tmp 43) 9) 44 9 ?_ (Nat.le_of_ble_eq_true rfl) (.string (bs (((((((((((reqWord q.kind) ++ ([32])) ++ (Lib.itoa q.id)) ++ ([32])) ++ (Lib.itoa q.cabin)) ++ ([32])) ++ (Lib.itoa q.from')) ++ ([32])) ++ (Lib.itoa q.size)) ++ ([32])) ++ (Lib.itoa q.tier)))) (runs_scat (a := (((((((((reqWord q.kind) ++ ([32])) ++ (Lib.itoa q.id)) ++ ([32])) ++ (Lib.itoa q.cabin)) ++ ([32])) ++ (Lib.itoa q.from')) ++ ([32])) ++ (Lib.itoa q.size)) ++ ([32])) (b := Lib.itoa q.tier) ?_ ?_ (by first | omega | (simp only [List.length_append, List.length_cons, List.length_nil, List.length_take, List.length_drop] at *; omega))) ?_
        · as_aux_lemma => kernel_rfl
        · as_aux_lemma => kernel_rfl
        · as_aux_lemma => kernel_rfl
        refine QRUN 1 24 25 [(2, .v (.string (bs (((((((((((reqWord q.kind) ++ ([32])) ++ (Lib.itoa q.id)) ++ ([32])) ++ (Lib.itoa q.cabin)) ++ ([32])) ++ (Lib.itoa q.from')) ++ ([32])) ++ (Lib.itoa q.size)) ++ ([32])) ++ (Lib.itoa q.tier)))))] ?_ rfl ?_
        · as_aux_lemma => kernel_rfl
        refine QEND rfl (NEXT (RET (OUTR (PASS trivial (FIN (.string (bs (((((((((((reqWord q.kind) ++ ([32])) ++ (Lib.itoa q.id)) ++ ([32])) ++ (Lib.itoa q.cabin)) ++ ([32])) ++ (Lib.itoa q.from')) ++ ([32])) ++ (Lib.itoa q.size)) ++ ([32])) ++ (Lib.itoa q.tier)))) ?_ () ?_ [] ?_)))))
        · as_aux_lemma => kernel_rfl
        · (first | (simp [RV, reqLine, reqWord, reqWords, *]; done) | (have h7 : q.kind = 7 := (by omega); simp [RV, reqLine, reqWord, reqWords, *]; done) | (have h9 : ¬ q.from' = -1 := (by omega); simp [RV, reqLine, reqWord, reqWords, *]; done) | (have h9 : q.from' = -1 := (by omega); simp [RV, reqLine, reqWord, reqWords, *]))
        · rfl
      · -- decide (q.from' ≥ 0) = false
        have h4 := bh4
        have h4 := of_decide_eq_false h4
        refine SKIP (NEXT (SEQ (REGIONQ ?_ ?_ ?_)))
        · as_aux_lemma => kernel_rfl
        · as_aux_lemma => kernel_rfl
        refine QRUN 1 0 1 [(1, .p 0 0), (4, .v (.string (bs ([45])))), (21, .v (.string (bs (reqWord q.kind))))] ?_ rfl ?_
        · as_aux_lemma => kernel_rfl
        refine QRUNV (.binOp .add 9 (.tmp 21) (.const (.string (bs ([32])))) 9) 22 9 ?_ (Nat.le_of_ble_eq_true rfl) (.string (bs ((reqWord q.kind) ++ ([32])))) (runs_scat (a := reqWord q.kind) (b := [32]) ?_ ?_ (by first | omega | (simp only [List.length_append, List.length_cons, List.length_nil, List.length_take, List.length_drop] at *; omega))) ?_
        · as_aux_lemma => kernel_rfl
        · as_aux_lemma => kernel_rfl
        · as_aux_lemma => kernel_rfl
        refine QRUN 2 2 4 [(1, .p 0 0), (4, .v (.string (bs ([45])))), (22, .v (.string (bs ((reqWord q.kind) ++ ([32]))))), (24, I q.id)] ?_ rfl ?_
        · as_aux_lemma => kernel_rfl
        have hr10 := itoa_len (n := q.id) (by first | assumption | exact wr_range _ | (unfold i64R at *; omega) | (simp only [i64R] at *; omega))
        refine QCALL 31 #[vi q.id] (some 25) ?_ (.string (bs (Lib.itoa q.id))) (fun w hw => sDigits_c w q.id (by first | assumption | exact wr_range _ | (unfold i64R at *; omega) | (simp only [i64R] at *; omega))) (by rintro _ ⟨⟩; exact Nat.le_of_ble_eq_true rfl) ?_
        · as_aux_lemma => kernel_rfl
        refine QRUNV (.binOp .add 9 (.tmp 22) (.tmp 25) 9) 26 9 ?_ (Nat.le_of_ble_eq_true rfl) (.string (bs (((reqWord q.kind) ++ ([32])) ++ (Lib.itoa q.id)))) (runs_scat (a := (reqWord q.kind) ++ ([32])) (b := Lib.itoa q.id) ?_ ?_ (by first | omega | (simp only [List.length_append, List.length_cons, List.length_nil, List.length_take, List.length_drop] at *; omega))) ?_
        · as_aux_lemma => kernel_rfl
        · as_aux_lemma => kernel_rfl
        · as_aux_lemma => kernel_rfl
        refine QRUNV (.binOp .add 9 (.tmp 26) (.const (.string (bs ([32])))) 9) 27 9 ?_ (Nat.le_of_ble_eq_true rfl) (.string (bs ((((reqWord q.kind) ++ ([32])) ++ (Lib.itoa q.id)) ++ ([32])))) (runs_scat (a := ((reqWord q.kind) ++ ([32])) ++ (Lib.itoa q.id)) (b := [32]) ?_ ?_ (by first | omega | (simp only [List.length_append, List.length_cons, List.length_nil, List.length_take, List.length_drop] at *; omega))) ?_
        · as_aux_lemma => kernel_rfl
        · as_aux_lemma => kernel_rfl
        · as_aux_lemma => kernel_rfl
        refine QRUN 2 7 9 [(1, .p 0 0), (4, .v (.string (bs ([45])))), (27, .v (.string (bs ((((reqWord q.kind) ++ ([32])) ++ (Lib.itoa q.id)) ++ ([32]))))), (29, I q.cabin)] ?_ rfl ?_
        · as_aux_lemma => kernel_rfl
        have hr11 := itoa_len (n := q.cabin) (by first | assumption | exact wr_range _ | (unfold i64R at *; omega) | (simp only [i64R] at *; omega))
        refine QCALL 31 #[vi q.cabin] (some 30) ?_ (.string (bs (Lib.itoa q.cabin))) (fun w hw => sDigits_c w q.cabin (by first | assumption | exact wr_range _ | (unfold i64R at *; omega) | (simp only [i64R] at *; omega))) (by rintro _ ⟨⟩; exact Nat.le_of_ble_eq_true rfl) ?_
        · as_aux_lemma => kernel_rfl
        refine QRUNV (.binOp .add 9 (.tmp 27) (.tmp 30) 9) 31 9 ?_ (Nat.le_of_ble_eq_true rfl) (.string (bs (((((reqWord q.kind) ++ ([32])) ++ (Lib.itoa q.id)) ++ ([32])) ++ (Lib.itoa q.cabin)))) (runs_scat (a := (((reqWord q.kind) ++ ([32])) ++ (Lib.itoa q.id)) ++ ([32])) (b := Lib.itoa q.cabin) ?_ ?_ (by first | omega | (simp only [List.length_append, List.length_cons, List.length_nil, List.length_take, List.length_drop] at *; omega))) ?_
        · as_aux_lemma => kernel_rfl
        · as_aux_lemma => kernel_rfl
        · as_aux_lemma => kernel_rfl
        refine QRUNV (.binOp .add 9 (.tmp 31) (.const (.string (bs ([32])))) 9) 32 9 ?_ (Nat.le_of_ble_eq_true rfl) (.string (bs ((((((reqWord q.kind) ++ ([32])) ++ (Lib.itoa q.id)) ++ ([32])) ++ (Lib.itoa q.cabin)) ++ ([32])))) (runs_scat (a := ((((reqWord q.kind) ++ ([32])) ++ (Lib.itoa q.id)) ++ ([32])) ++ (Lib.itoa q.cabin)) (b := [32]) ?_ ?_ (by first | omega | (simp only [List.length_append, List.length_cons, List.length_nil, List.length_take, List.length_drop] at *; omega))) ?_
        · as_aux_lemma => kernel_rfl
        · as_aux_lemma => kernel_rfl
        · as_aux_lemma => kernel_rfl
        refine QRUN 1 12 13 [(1, .p 0 0), (32, .v (.string (bs ((((((reqWord q.kind) ++ ([32])) ++ (Lib.itoa q.id)) ++ ([32])) ++ (Lib.itoa q.cabin)) ++ ([32]))))), (33, .v (.string (bs ([45]))))] ?_ rfl ?_
        · as_aux_lemma => kernel_rfl
        refine QRUNV (.binOp .add 9 (.tmp 32) (.tmp 33) 9) 34 9 ?_ (Nat.le_of_ble_eq_true rfl) (.string (bs (((((((reqWord q.kind) ++ ([32])) ++ (Lib.itoa q.id)) ++ ([32])) ++ (Lib.itoa q.cabin)) ++ ([32])) ++ ([45])))) (runs_scat (a := (((((reqWord q.kind) ++ ([32])) ++ (Lib.itoa q.id)) ++ ([32])) ++ (Lib.itoa q.cabin)) ++ ([32])) (b := [45]) ?_ ?_ (by first | omega | (simp only [List.length_append, List.length_cons, List.length_nil, List.length_take, List.length_drop] at *; omega))) ?_
        · as_aux_lemma => kernel_rfl
        · as_aux_lemma => kernel_rfl
        · as_aux_lemma => kernel_rfl
        refine QRUNV (.binOp .add 9 (.tmp 34) (.const (.string (bs ([32])))) 9) 35 9 ?_ (Nat.le_of_ble_eq_true rfl) (.string (bs ((((((((reqWord q.kind) ++ ([32])) ++ (Lib.itoa q.id)) ++ ([32])) ++ (Lib.itoa q.cabin)) ++ ([32])) ++ ([45])) ++ ([32])))) (runs_scat (a := ((((((reqWord q.kind) ++ ([32])) ++ (Lib.itoa q.id)) ++ ([32])) ++ (Lib.itoa q.cabin)) ++ ([32])) ++ ([45])) (b := [32]) ?_ ?_ (by first | omega | (simp only [List.length_append, List.length_cons, List.length_nil, List.length_take, List.length_drop] at *; omega))) ?_
        · as_aux_lemma => kernel_rfl
        · as_aux_lemma => kernel_rfl
        · as_aux_lemma => kernel_rfl
        refine QRUN 2 15 17 [(1, .p 0 0), (35, .v (.string (bs ((((((((reqWord q.kind) ++ ([32])) ++ (Lib.itoa q.id)) ++ ([32])) ++ (Lib.itoa q.cabin)) ++ ([32])) ++ ([45])) ++ ([32]))))), (37, I q.size)] ?_ rfl ?_
        · as_aux_lemma => kernel_rfl
        have hr12 := itoa_len (n := q.size) (by first | assumption | exact wr_range _ | (unfold i64R at *; omega) | (simp only [i64R] at *; omega))
        refine QCALL 31 #[vi q.size] (some 38) ?_ (.string (bs (Lib.itoa q.size))) (fun w hw => sDigits_c w q.size (by first | assumption | exact wr_range _ | (unfold i64R at *; omega) | (simp only [i64R] at *; omega))) (by rintro _ ⟨⟩; exact Nat.le_of_ble_eq_true rfl) ?_
        · as_aux_lemma => kernel_rfl
        refine QRUNV (.binOp .add 9 (.tmp 35) (.tmp 38) 9) 39 9 ?_ (Nat.le_of_ble_eq_true rfl) (.string (bs (((((((((reqWord q.kind) ++ ([32])) ++ (Lib.itoa q.id)) ++ ([32])) ++ (Lib.itoa q.cabin)) ++ ([32])) ++ ([45])) ++ ([32])) ++ (Lib.itoa q.size)))) (runs_scat (a := (((((((reqWord q.kind) ++ ([32])) ++ (Lib.itoa q.id)) ++ ([32])) ++ (Lib.itoa q.cabin)) ++ ([32])) ++ ([45])) ++ ([32])) (b := Lib.itoa q.size) ?_ ?_ (by first | omega | (simp only [List.length_append, List.length_cons, List.length_nil, List.length_take, List.length_drop] at *; omega))) ?_
        · as_aux_lemma => kernel_rfl
        · as_aux_lemma => kernel_rfl
        · as_aux_lemma => kernel_rfl
        refine QRUNV (.binOp .add 9 (.tmp 39) (.const (.string (bs ([32])))) 9) 40 9 ?_ (Nat.le_of_ble_eq_true rfl) (.string (bs ((((((((((reqWord q.kind) ++ ([32])) ++ (Lib.itoa q.id)) ++ ([32])) ++ (Lib.itoa q.cabin)) ++ ([32])) ++ ([45])) ++ ([32])) ++ (Lib.itoa q.size)) ++ ([32])))) (runs_scat (a := ((((((((reqWord q.kind) ++ ([32])) ++ (Lib.itoa q.id)) ++ ([32])) ++ (Lib.itoa q.cabin)) ++ ([32])) ++ ([45])) ++ ([32])) ++ (Lib.itoa q.size)) (b := [32]) ?_ ?_ (by first | omega | (simp only [List.length_append, List.length_cons, List.length_nil, List.length_take, List.length_drop] at *; omega))) ?_
        · as_aux_lemma => kernel_rfl
        · as_aux_lemma => kernel_rfl
        · as_aux_lemma => kernel_rfl
        refine QRUN 2 20 22 [(40, .v (.string (bs ((((((((((reqWord q.kind) ++ ([32])) ++ (Lib.itoa q.id)) ++ ([32])) ++ (Lib.itoa q.cabin)) ++ ([32])) ++ ([45])) ++ ([32])) ++ (Lib.itoa q.size)) ++ ([32]))))), (42, I q.tier)] ?_ rfl ?_
        · as_aux_lemma => kernel_rfl
        have hr13 := itoa_len (n := q.tier) (by first | assumption | exact wr_range _ | (unfold i64R at *; omega) | (simp only [i64R] at *; omega))
        refine QCALL 31 #[vi q.tier] (some 43) ?_ (.string (bs (Lib.itoa q.tier))) (fun w hw => sDigits_c w q.tier (by first | assumption | exact wr_range _ | (unfold i64R at *; omega) | (simp only [i64R] at *; omega))) (by rintro _ ⟨⟩; exact Nat.le_of_ble_eq_true rfl) ?_
        · as_aux_lemma => kernel_rfl
        refine QRUNV (.binOp .add 9 (.tmp 40) (.tmp 43) 9) 44 9 ?_ (Nat.le_of_ble_eq_true rfl) (.string (bs (((((((((((reqWord q.kind) ++ ([32])) ++ (Lib.itoa q.id)) ++ ([32])) ++ (Lib.itoa q.cabin)) ++ ([32])) ++ ([45])) ++ ([32])) ++ (Lib.itoa q.size)) ++ ([32])) ++ (Lib.itoa q.tier)))) (runs_scat (a := (((((((((reqWord q.kind) ++ ([32])) ++ (Lib.itoa q.id)) ++ ([32])) ++ (Lib.itoa q.cabin)) ++ ([32])) ++ ([45])) ++ ([32])) ++ (Lib.itoa q.size)) ++ ([32])) (b := Lib.itoa q.tier) ?_ ?_ (by first | omega | (simp only [List.length_append, List.length_cons, List.length_nil, List.length_take, List.length_drop] at *; omega))) ?_
        · as_aux_lemma => kernel_rfl
        · as_aux_lemma => kernel_rfl
        · as_aux_lemma => kernel_rfl
        refine QRUN 1 24 25 [(2, .v (.string (bs (((((((((((reqWord q.kind) ++ ([32])) ++ (Lib.itoa q.id)) ++ ([32])) ++ (Lib.itoa q.cabin)) ++ ([32])) ++ ([45])) ++ ([32])) ++ (Lib.itoa q.size)) ++ ([32])) ++ (Lib.itoa q.tier)))))] ?_ rfl ?_
        · as_aux_lemma => kernel_rfl
        refine QEND rfl (NEXT (RET (OUTR (PASS trivial (FIN (.string (bs (((((((((((reqWord q.kind) ++ ([32])) ++ (Lib.itoa q.id)) ++ ([32])) ++ (Lib.itoa q.cabin)) ++ ([32])) ++ ([45])) ++ ([32])) ++ (Lib.itoa q.size)) ++ ([32])) ++ (Lib.itoa q.tier)))) ?_ () ?_ [] ?_)))))
        · as_aux_lemma => kernel_rfl
        · (first | (simp [RV, reqLine, reqWord, reqWords, *]; done) | (have h7 : q.kind = 7 := (by omega); simp [RV, reqLine, reqWord, reqWords, *]; done) | (have h9 : ¬ q.from' = -1 := (by omega); simp [RV, reqLine, reqWord, reqWords, *]; done) | (have h9 : q.from' = -1 := (by omega); simp [RV, reqLine, reqWord, reqWords, *]))
        · rfl
    · -- q.kind == 1 = false
      have h3 := bh3
      have h3 := ne_of_beq_false h3
      refine SEQ (REGION [0, 1] rfl (RUN0 2 [] [(1, .p 0 0), (3, .v (.string (bs (reqWord q.kind)))), (12, I q.kind), (45, B (q.kind == 3))] ?_ rfl ?_))
      · as_aux_lemma => kernel_rfl
      refine ENDOPS (NEXT (IF (q.kind == 3) ?_ (fun bh14 => ?_) (fun bh14 => ?_)))
      · as_aux_lemma => kernel_rfl
      · -- q.kind == 3 = true
        have h14 := bh14
        have h14 := eq_of_beq h14
        refine SEQ (REGIONQ ?_ ?_ ?_)
        · as_aux_lemma => kernel_rfl
        · as_aux_lemma => kernel_rfl
        refine QRUN 1 0 1 [(1, .p 0 0), (47, .v (.string (bs (reqWord q.kind))))] ?_ rfl ?_
        · as_aux_lemma => kernel_rfl
        refine QRUNV (.binOp .add 9 (.tmp 47) (.const (.string (bs ([32])))) 9) 48 9 ?_ (Nat.le_of_ble_eq_true rfl) (.string (bs ((reqWord q.kind) ++ ([32])))) (runs_scat (a := reqWord q.kind) (b := [32]) ?_ ?_ (by first | omega | (simp only [List.length_append, List.length_cons, List.length_nil, List.length_take, List.length_drop] at *; omega))) ?_
        · as_aux_lemma => kernel_rfl
        · as_aux_lemma => kernel_rfl
        · as_aux_lemma => kernel_rfl
        refine QRUN 2 2 4 [(1, .p 0 0), (48, .v (.string (bs ((reqWord q.kind) ++ ([32]))))), (50, I q.cabin)] ?_ rfl ?_
        · as_aux_lemma => kernel_rfl
        have hr15 := itoa_len (n := q.cabin) (by first | assumption | exact wr_range _ | (unfold i64R at *; omega) | (simp only [i64R] at *; omega))
        refine QCALL 31 #[vi q.cabin] (some 51) ?_ (.string (bs (Lib.itoa q.cabin))) (fun w hw => sDigits_c w q.cabin (by first | assumption | exact wr_range _ | (unfold i64R at *; omega) | (simp only [i64R] at *; omega))) (by rintro _ ⟨⟩; exact Nat.le_of_ble_eq_true rfl) ?_
        · as_aux_lemma => kernel_rfl
        refine QRUNV (.binOp .add 9 (.tmp 48) (.tmp 51) 9) 52 9 ?_ (Nat.le_of_ble_eq_true rfl) (.string (bs (((reqWord q.kind) ++ ([32])) ++ (Lib.itoa q.cabin)))) (runs_scat (a := (reqWord q.kind) ++ ([32])) (b := Lib.itoa q.cabin) ?_ ?_ (by first | omega | (simp only [List.length_append, List.length_cons, List.length_nil, List.length_take, List.length_drop] at *; omega))) ?_
        · as_aux_lemma => kernel_rfl
        · as_aux_lemma => kernel_rfl
        · as_aux_lemma => kernel_rfl
        refine QRUNV (.binOp .add 9 (.tmp 52) (.const (.string (bs ([32])))) 9) 53 9 ?_ (Nat.le_of_ble_eq_true rfl) (.string (bs ((((reqWord q.kind) ++ ([32])) ++ (Lib.itoa q.cabin)) ++ ([32])))) (runs_scat (a := ((reqWord q.kind) ++ ([32])) ++ (Lib.itoa q.cabin)) (b := [32]) ?_ ?_ (by first | omega | (simp only [List.length_append, List.length_cons, List.length_nil, List.length_take, List.length_drop] at *; omega))) ?_
        · as_aux_lemma => kernel_rfl
        · as_aux_lemma => kernel_rfl
        · as_aux_lemma => kernel_rfl
        refine QRUN 2 7 9 [(53, .v (.string (bs ((((reqWord q.kind) ++ ([32])) ++ (Lib.itoa q.cabin)) ++ ([32]))))), (55, I q.size)] ?_ rfl ?_
        · as_aux_lemma => kernel_rfl
        have hr16 := itoa_len (n := q.size) (by first | assumption | exact wr_range _ | (unfold i64R at *; omega) | (simp only [i64R] at *; omega))
        refine QCALL 31 #[vi q.size] (some 56) ?_ (.string (bs (Lib.itoa q.size))) (fun w hw => sDigits_c w q.size (by first | assumption | exact wr_range _ | (unfold i64R at *; omega) | (simp only [i64R] at *; omega))) (by rintro _ ⟨⟩; exact Nat.le_of_ble_eq_true rfl) ?_
        · as_aux_lemma => kernel_rfl
        refine QRUNV (.binOp .add 9 (.tmp 53) (.tmp 56) 9) 57 9 ?_ (Nat.le_of_ble_eq_true rfl) (.string (bs (((((reqWord q.kind) ++ ([32])) ++ (Lib.itoa q.cabin)) ++ ([32])) ++ (Lib.itoa q.size)))) (runs_scat (a := (((reqWord q.kind) ++ ([32])) ++ (Lib.itoa q.cabin)) ++ ([32])) (b := Lib.itoa q.size) ?_ ?_ (by first | omega | (simp only [List.length_append, List.length_cons, List.length_nil, List.length_take, List.length_drop] at *; omega))) ?_
        · as_aux_lemma => kernel_rfl
        · as_aux_lemma => kernel_rfl
        · as_aux_lemma => kernel_rfl
        refine QRUN 1 11 12 [(2, .v (.string (bs (((((reqWord q.kind) ++ ([32])) ++ (Lib.itoa q.cabin)) ++ ([32])) ++ (Lib.itoa q.size)))))] ?_ rfl ?_
        · as_aux_lemma => kernel_rfl
        refine QEND rfl (NEXT (RET (OUTR (PASS trivial (FIN (.string (bs (((((reqWord q.kind) ++ ([32])) ++ (Lib.itoa q.cabin)) ++ ([32])) ++ (Lib.itoa q.size)))) ?_ () ?_ [] ?_)))))
        · as_aux_lemma => kernel_rfl
        · (first | (simp [RV, reqLine, reqWord, reqWords, *]; done) | (have h7 : q.kind = 7 := (by omega); simp [RV, reqLine, reqWord, reqWords, *]; done) | (have h9 : ¬ q.from' = -1 := (by omega); simp [RV, reqLine, reqWord, reqWords, *]; done) | (have h9 : q.from' = -1 := (by omega); simp [RV, reqLine, reqWord, reqWords, *]))
        · rfl
      · -- q.kind == 3 = false
        have h14 := bh14
        have h14 := ne_of_beq_false h14
        refine SEQ (REGION [0, 1] rfl (RUN0 2 [] [(1, .p 0 0), (3, .v (.string (bs (reqWord q.kind)))), (58, B (q.kind == 6))] ?_ rfl ?_))
        · as_aux_lemma => kernel_rfl
        refine ENDOPS (NEXT (IF (q.kind == 6) ?_ (fun bh17 => ?_) (fun bh17 => ?_)))
        · as_aux_lemma => kernel_rfl
        · -- q.kind == 6 = true
          have h17 := bh17
          have h17 := eq_of_beq h17
          refine SEQ (REGION [0, 1] rfl (RUN0 2 [] [(2, .v (.string (bs (reqWord q.kind))))] ?_ rfl ?_))
          · as_aux_lemma => kernel_rfl
          refine ENDOPS (NEXT (RET (OUTR (PASS trivial (FIN (.string (bs (reqWord q.kind))) ?_ () ?_ [] ?_)))))
          · as_aux_lemma => kernel_rfl
          · (first | (simp [RV, reqLine, reqWord, reqWords, *]; done) | (have h7 : q.kind = 7 := (by omega); simp [RV, reqLine, reqWord, reqWords, *]; done) | (have h9 : ¬ q.from' = -1 := (by omega); simp [RV, reqLine, reqWord, reqWords, *]; done) | (have h9 : q.from' = -1 := (by omega); simp [RV, reqLine, reqWord, reqWords, *]))
          · rfl
        · -- q.kind == 6 = false
          have h17 := bh17
          have h17 := ne_of_beq_false h17
          refine SKIP (OUTN (NEXT (SEQ (REGION [0, 1, 2, 3, 4, 5, 6] rfl (RUN0 1 [1, 2, 3, 4, 5, 6] [(1, .p 0 0), (61, .v (.string (bs (reqWord q.kind))))] ?_ rfl ?_)))))
          · as_aux_lemma => kernel_rfl
          refine OPC (RUNV (.binOp .add 9 (.tmp 61) (.const (.string (bs ([32])))) 9) 62 9 ?_ (Nat.le_of_ble_eq_true rfl) (.string (bs ((reqWord q.kind) ++ ([32])))) (runs_scat (a := reqWord q.kind) (b := [32]) ?_ ?_ (by first | omega | (simp only [List.length_append, List.length_cons, List.length_nil, List.length_take, List.length_drop] at *; omega))) ?_)
          · as_aux_lemma => kernel_rfl
          · as_aux_lemma => kernel_rfl
          · as_aux_lemma => kernel_rfl
          refine RUN0 2 [4, 5, 6] [(62, .v (.string (bs ((reqWord q.kind) ++ ([32]))))), (64, I q.id)] ?_ rfl ?_
          · as_aux_lemma => kernel_rfl
          refine OPC (CALL 31 #[vi q.id] (some 65) ?_ [] [] _ rfl (RV (.string (bs (Lib.itoa q.id)))) (fun w hw => sDigits_c w q.id (by first | assumption | exact wr_range _ | (unfold i64R at *; omega) | (simp only [i64R] at *; omega))) (by rintro _ ⟨⟩; exact Nat.le_of_ble_eq_true rfl) ?_)
          · as_aux_lemma => kernel_rfl
          rintro ⟨⟩
          have hr18 := itoa_len (n := q.id) (by first | assumption | exact wr_range _ | (unfold i64R at *; omega) | (simp only [i64R] at *; omega))
          refine OPC (RUNV (.binOp .add 9 (.tmp 62) (.tmp 65) 9) 66 9 ?_ (Nat.le_of_ble_eq_true rfl) (.string (bs (((reqWord q.kind) ++ ([32])) ++ (Lib.itoa q.id)))) (runs_scat (a := (reqWord q.kind) ++ ([32])) (b := Lib.itoa q.id) ?_ ?_ (by first | omega | (simp only [List.length_append, List.length_cons, List.length_nil, List.length_take, List.length_drop] at *; omega))) ?_)
          · as_aux_lemma => kernel_rfl
          · as_aux_lemma => kernel_rfl
          · as_aux_lemma => kernel_rfl
          refine RUN0 1 [] [(2, .v (.string (bs (((reqWord q.kind) ++ ([32])) ++ (Lib.itoa q.id)))))] ?_ rfl ?_
          · as_aux_lemma => kernel_rfl
          refine ENDOPS (NEXT (RET (FIN (.string (bs (((reqWord q.kind) ++ ([32])) ++ (Lib.itoa q.id)))) ?_ () ?_ [] ?_)))
          · as_aux_lemma => kernel_rfl
          · (first | (simp [RV, reqLine, reqWord, reqWords, *]; done) | (have h7 : q.kind = 7 := (by omega); simp [RV, reqLine, reqWord, reqWords, *]; done) | (have h9 : ¬ q.from' = -1 := (by omega); simp [RV, reqLine, reqWord, reqWords, *]; done) | (have h9 : q.from' = -1 := (by omega); simp [RV, reqLine, reqWord, reqWords, *]))
          · rfl

theorem szReqS_c (W : World) (a : List Req) (a_a : Option Addr) (a_c : Nat) (ha : Rd reqL W a_a a) (left : Int) : Spec Tryd.prog W [] 13 #[.slice a_a a.length a_c, vi left] (RV (vi (szReqs a left))) := by
  refine ENTER0 (N := 12) (vs := [.slice a_a a.length a_c, vi left]) Tryd.func13 rfl rfl (Nat.le_of_ble_eq_true rfl) ?_
  have ha_len := ha.len
  refine SEQ (REGION [0] rfl (RUN0 1 [] [(0, .v (.slice a_a a.length a_c)), (1, I left)] ?_ rfl ?_))
  · as_aux_lemma => kernel_rfl
  refine ENDOPS (NEXT (SEQ (REGION [0, 1, 2, 3, 4] rfl (RUN0 5 [] [(1, I (wr (left - (a.length : Int))))] ?_ rfl ?_))))
  · as_aux_lemma => kernel_rfl
  refine ENDOPS (NEXT (SEQ (SEQ (REGION [0, 1] rfl (RUN0 2 [] [(1, I (wr (left - (a.length : Int)))), (10, B (decide ((wr (left - (a.length : Int))) < 0)))] ?_ rfl ?_)))))
  · as_aux_lemma => kernel_rfl
  refine ENDOPS (NEXT (IF (decide ((wr (left - (a.length : Int))) < 0)) ?_ (fun bh1 => ?_) (fun bh1 => ?_)))
  · as_aux_lemma => kernel_rfl
  · -- decide ((wr (left - (a.length : Int))) < 0) = true
    have h1 := bh1
    have h1 := of_decide_eq_true h1
    refine SEQ (REGION [0] rfl (RUN0 1 [] [(4, I (-1))] ?_ rfl ?_))
    · as_aux_lemma => kernel_rfl
    refine ENDOPS (NEXT (RET (PASS trivial (FIN (vi (-1)) ?_ () ?_ [] ?_))))
    · as_aux_lemma => kernel_rfl
    · simp [RV, szReqs, *]
    · rfl
  · -- decide ((wr (left - (a.length : Int))) < 0) = false
    have h1 := bh1
    have h1 := of_decide_eq_false h1
    refine SKIP (NEXT (SEQ (REGION [0, 1] rfl (RUN0 2 [] [(4, I (wr (left - (a.length : Int))))] ?_ rfl ?_))))
    · as_aux_lemma => kernel_rfl
    refine ENDOPS (NEXT (RET (FIN (vi (wr (left - (a.length : Int)))) ?_ () ?_ [] ?_)))
    · as_aux_lemma => kernel_rfl
    · simp [RV, szReqs, *]
    · rfl

theorem toReqS_c (W : World) (a : List Req) (a_a : Option Addr) (a_c : Nat) (ha : Rd reqL W a_a a) (hb : a.length ≤ 1048576) : Spec Tryd.prog W [] 15 #[.slice a_a a.length a_c] (⟨HH, fun p => .slice p.1 a.length p.2, fun p => [slA 47 reqL (.slice p.1 a.length p.2) a]⟩) := by
  refine ENTER0 (N := 23) (vs := [.slice a_a a.length a_c]) Tryd.func15 rfl rfl (Nat.le_of_ble_eq_true rfl) ?_
  have ha_len := ha.len
  refine SEQ (REGION [0] rfl (RUN0 1 [] [(0, .v (.slice a_a a.length a_c))] ?_ rfl ?_))
  · as_aux_lemma => kernel_rfl
  refine ENDOPS (NEXT (SEQ (REGION [0, 1, 2, 3] rfl (RUN0 2 [2, 3] [(0, .v (.slice a_a a.length a_c)), (6, I (a.length : Int))] ?_ rfl ?_))))
  · as_aux_lemma => kernel_rfl
  refine OPC (MAKE 34 (.tmp 6) (.tmp 6) 7 34 ?_ (Nat.le_of_ble_eq_true rfl) a.length ?_ ?_ 47 ?_ reqE reqH (⟨0, 0, 0, 0, 0, 0⟩ : Req) (.agg #[vi 0, vi 0, vi 0, vi 0, vi 0, vi 0]) 48 rfl ?_ (by decide) (by omega) (by simp only [maxLen]; omega) (fun a1 ha2 => ?_))
  · as_aux_lemma => kernel_rfl
  · as_aux_lemma => kernel_rfl
  · as_aux_lemma => kernel_rfl
  · as_aux_lemma => kernel_rfl
  · as_aux_lemma => kernel_rfl
  refine RUN0 1 [] [(0, .v (.slice a_a a.length a_c)), (3, .v (.slice a1 a.length a.length))] ?_ rfl ?_
  · as_aux_lemma => kernel_rfl
  refine ENDOPS (NEXT (SEQ (SEQ (REGION [0] rfl (RUN0 1 [] [(0, .v (.slice a_a a.length a_c)), (3, .v (.slice a1 a.length a.length)), (4, I 0)] ?_ rfl ?_)))))
  · as_aux_lemma => kernel_rfl
  refine ENDOPS (NEXT (BLOCK (LOOP (ι := Nat × (List Req) × (List Req)) (fun j => [(0, .v (.slice a_a a.length a_c)), (3, .v (.slice a1 a.length a.length)), (4, I (j.1 : Int))]) (fun j => []) (fun j => [slA 47 reqL (.slice a1 a.length a.length) j.2.2]) (fun j => j.1 + j.2.1.length = a.length ∧ a.drop j.1 = j.2.1 ∧ j.2.2 = a.take j.1 ++ List.replicate j.2.1.length (⟨0, 0, 0, 0, 0, 0⟩ : Req)) (fun j => j.2.1.length) (0, a, List.replicate a.length (⟨0, 0, 0, 0, 0, 0⟩ : Req)) [0, 3, 4] ⟨by simp, rfl, by simp⟩ ?_ rfl rfl ?_)))
  · as_aux_lemma => kernel_rfl
  rintro ⟨k, ys, out⟩ ⟨hk, hd, hv0⟩
  dsimp only at hk hd hv0
  refine SEQ (SEQ (REGION [0, 1, 2, 3] rfl (RUN0 4 [] [(0, .v (.slice a_a a.length a_c)), (3, .v (.slice a1 a.length a.length)), (4, I (k : Int)), (11, B (decide ((k : Int) < (a.length : Int))))] ?_ rfl ?_)))
  · as_aux_lemma => kernel_rfl
  refine ENDOPS (NEXT (IF (decide ((k : Int) < (a.length : Int))) ?_ (fun bh3 => ?_) (fun bh3 => ?_)))
  · as_aux_lemma => kernel_rfl
  · -- decide ((k : Int) < (a.length : Int)) = true
    have h3 := bh3
    have h3 := of_decide_eq_true h3
    obtain ⟨y4, ys5, rfl, hx_y4, hd_y4, hl_y4⟩ := drop_cons hd hk (by omega)
    refine SKIP (NEXT (SEQ (BLOCK (REGION [0, 1, 2, 3, 4, 5, 6, 7, 8] rfl (RUN0 4 [4, 5, 6, 7, 8] [(0, .v (.slice a_a a.length a_c)), (3, .v (.slice a1 a.length a.length)), (4, I (k : Int)), (14, .v (.slice a1 a.length a.length)), (15, I (k : Int)), (16, .v (.slice a_a a.length a_c)), (17, I (k : Int))] ?_ rfl ?_)))))
    · as_aux_lemma => kernel_rfl
    refine OPC (INDEX 31 (.tmp 16) (.tmp 17) 18 0 ?_ (Nat.le_of_ble_eq_true rfl) a_a a.length a_c .i64 (k : Int) 60 6 ?_ ?_ ?_ ?_ (Rd.some ha (by omega)) (by omega) (by omega) ?_)
    · as_aux_lemma => kernel_rfl
    · as_aux_lemma => kernel_rfl
    · as_aux_lemma => kernel_rfl
    · as_aux_lemma => kernel_rfl
    · as_aux_lemma => kernel_rfl
    refine OPC (LOADE 60 (.tmp 18) 19 60 ?_ (Nat.le_of_ble_eq_true rfl) a_a (k * 6) 0 [vi y4.kind, vi y4.id, vi y4.cabin, vi y4.from', vi y4.size, vi y4.tier] (.agg #[vi y4.kind, vi y4.id, vi y4.cabin, vi y4.from', vi y4.size, vi y4.tier]) ?_ (fun w hw => (ha.fr hw.fr).flat hx_y4) ?_ ?_)
    · as_aux_lemma => kernel_rfl
    · as_aux_lemma => kernel_rfl
    · as_aux_lemma => kernel_rfl
    refine OPC (CALL 37 #[.agg #[vi y4.kind, vi y4.id, vi y4.cabin, vi y4.from', vi y4.size, vi y4.tier]] (some 20) ?_ [] [] _ rfl (RV (.agg #[vi y4.kind, vi y4.id, vi y4.cabin, vi y4.from', vi y4.size, vi y4.tier])) (fun w hw => toReq_c w y4) (by rintro _ ⟨⟩; exact Nat.le_of_ble_eq_true rfl) ?_)
    · as_aux_lemma => kernel_rfl
    rintro ⟨⟩
    refine FACT (a.length = out.length) (fun w hw => (SlO.lenE (hw.own 0 rfl)).1) (fun hln6 => ?_)
    obtain ⟨x7, hx8⟩ : ∃ y, out[k]? = some y := ⟨_, List.getElem?_eq_getElem (by omega)⟩
    refine OPC (INDEX 34 (.tmp 14) (.tmp 15) 21 0 ?_ (Nat.le_of_ble_eq_true rfl) a1 a.length a.length .i64 (k : Int) 47 6 ?_ ?_ ?_ ?_ ha2 (by omega) (by omega) ?_)
    · as_aux_lemma => kernel_rfl
    · as_aux_lemma => kernel_rfl
    · as_aux_lemma => kernel_rfl
    · as_aux_lemma => kernel_rfl
    · as_aux_lemma => kernel_rfl
    refine OPC (STOREF 47 (.tmp 21) (.tmp 20) 0 ?_ 0 _ 47 a1 a.length a.length k 0 out rfl x7 y4 hx8 (.agg #[vi y4.kind, vi y4.id, vi y4.cabin, vi y4.from', vi y4.size, vi y4.tier]) ?_ ?_ ?_ ?_)
    · as_aux_lemma => kernel_rfl
    · as_aux_lemma => kernel_rfl
    · as_aux_lemma => kernel_rfl
    · as_aux_lemma => kernel_rfl
    refine ENDOPS (OUTN (NEXT (REGION [0, 1, 2] rfl (RUN0 2 [2] [(0, .v (.slice a_a a.length a_c)), (3, .v (.slice a1 a.length a.length)), (13, I (wr ((k : Int) + 1)))] ?_ rfl ?_))))
    · as_aux_lemma => kernel_rfl
    refine CAST (d := 13) (vi (wr ((k : Int) + 1))) (vi ((k + 1 : Nat) : Int)) ?_ (vi_cast (by omega) (by omega)) ?_
    · as_aux_lemma => kernel_rfl
    refine RUN0 1 [] [(0, .v (.slice a_a a.length a_c)), (3, .v (.slice a1 a.length a.length)), (4, I ((k + 1 : Nat) : Int))] ?_ rfl ?_
    · as_aux_lemma => kernel_rfl
    refine ENDOPS (BACK (k + 1, ys5, out.set k y4) [0, 3, 4] 0 [0] _ ⟨hl_y4, hd_y4, by rw [hv0]; exact set_next hk hx_y4⟩ (by simp) ?_ rfl rfl rfl)
    · as_aux_lemma => kernel_rfl
  · -- decide ((k : Int) < (a.length : Int)) = false
    have h3 := bh3
    have h3 := of_decide_eq_false h3
    obtain rfl := drop_nil hk (by omega)
    refine EXIT (PASS trivial (PASS trivial (OUT (NEXT (SEQ (REGION [0, 1] rfl (RUN0 2 [] [(2, .v (.slice a1 a.length a.length))] ?_ rfl ?_)))))))
    · as_aux_lemma => kernel_rfl
    refine ENDOPS (NEXT (RET (FIN (.slice a1 a.length a.length) ?_ (a1, a.length) ?_ [0] ?_)))
    · as_aux_lemma => kernel_rfl
    · rfl
    · (rw [show out = a by rw [hv0]; simp [show k = a.length by simpa using hk]]; rfl)

theorem eqReqS_c (W : World) (a : List Req) (a_a : Option Addr) (a_c : Nat) (ha : Rd reqL W a_a a) (b : List Req) (b_a : Option Addr) (b_c : Nat) (hb : Rd reqL W b_a b) : Spec Tryd.prog W [] 17 #[.slice a_a a.length a_c, .slice b_a b.length b_c] (RV (.bool (eqReqs a b))) := by
  refine ENTER0 (N := 27) (vs := [.slice a_a a.length a_c, .slice b_a b.length b_c]) Tryd.func17 rfl rfl (Nat.le_of_ble_eq_true rfl) ?_
  have ha_len := ha.len
  have hb_len := hb.len
  refine SEQ (REGION [0] rfl (RUN0 1 [] [(0, .v (.slice a_a a.length a_c)), (1, .v (.slice b_a b.length b_c))] ?_ rfl ?_))
  · as_aux_lemma => kernel_rfl
  refine ENDOPS (NEXT (SEQ (SEQ (REGION [0, 1, 2, 3, 4] rfl (RUN0 5 [] [(0, .v (.slice a_a a.length a_c)), (1, .v (.slice b_a b.length b_c)), (10, B ((a.length : Int) != (b.length : Int)))] ?_ rfl ?_)))))
  · as_aux_lemma => kernel_rfl
  refine ENDOPS (NEXT (IF ((a.length : Int) != (b.length : Int)) ?_ (fun bh1 => ?_) (fun bh1 => ?_)))
  · as_aux_lemma => kernel_rfl
  · -- (a.length : Int) != (b.length : Int) = true
    have h1 := bh1
    have h1 := bne_iff_ne.1 h1
    refine SEQ (REGION [0] rfl (RUN0 1 [] [(4, B false)] ?_ rfl ?_))
    · as_aux_lemma => kernel_rfl
    refine ENDOPS (NEXT (RET (PASS trivial (FIN (.bool false) ?_ () ?_ [] ?_))))
    · as_aux_lemma => kernel_rfl
    · simp [RV, eqReqs_ne (a := a) (b := b) (by omega)]
    · rfl
  · -- (a.length : Int) != (b.length : Int) = false
    have h1 := bh1
    have h1 := bneF h1
    refine SKIP (NEXT (SEQ (SEQ (REGION [0] rfl (RUN0 1 [] [(0, .v (.slice a_a a.length a_c)), (1, .v (.slice b_a b.length b_c)), (5, I 0)] ?_ rfl ?_)))))
    · as_aux_lemma => kernel_rfl
    refine ENDOPS (NEXT (BLOCK (LOOP (ι := Nat × (List Req)) (fun j => [(0, .v (.slice a_a a.length a_c)), (1, .v (.slice b_a b.length b_c)), (5, I (j.1 : Int))]) (fun j => []) (fun j => []) (fun j => j.1 + j.2.length = a.length ∧ a.drop j.1 = j.2 ∧ eqReqs a b = eqReqs j.2 (b.drop j.1)) (fun j => j.2.length) (0, a) [0, 1, 5] ⟨by simp, rfl, rfl⟩ ?_ rfl rfl ?_)))
    · as_aux_lemma => kernel_rfl
    rintro ⟨k, ys⟩ ⟨hk, hd, hv0⟩
    dsimp only at hk hd hv0
    refine SEQ (SEQ (REGION [0, 1, 2, 3] rfl (RUN0 4 [] [(0, .v (.slice a_a a.length a_c)), (1, .v (.slice b_a b.length b_c)), (5, I (k : Int)), (14, B (decide ((k : Int) < (a.length : Int))))] ?_ rfl ?_)))
    · as_aux_lemma => kernel_rfl
    refine ENDOPS (NEXT (IF (decide ((k : Int) < (a.length : Int))) ?_ (fun bh2 => ?_) (fun bh2 => ?_)))
    · as_aux_lemma => kernel_rfl
    · -- decide ((k : Int) < (a.length : Int)) = true
      have h2 := bh2
      have h2 := of_decide_eq_true h2
      obtain ⟨y3, ys4, rfl, hx_y3, hd_y3, hl_y3⟩ := drop_cons hd hk (by omega)
      refine SKIP (NEXT (SEQ (BLOCK (SEQ (REGIONQ ?_ ?_ ?_)))))
      · as_aux_lemma => kernel_rfl
      · as_aux_lemma => kernel_rfl
      refine QRUN 2 0 2 [(0, .v (.slice a_a a.length a_c)), (1, .v (.slice b_a b.length b_c)), (5, I (k : Int)), (17, .v (.slice a_a a.length a_c)), (18, I (k : Int))] ?_ rfl ?_
      · as_aux_lemma => kernel_rfl
      refine QINDEX 34 (.tmp 17) (.tmp 18) 19 0 ?_ (Nat.le_of_ble_eq_true rfl) a_a a.length a_c .i64 (k : Int) 47 6 ?_ ?_ ?_ ?_ (Rd.some ha (by omega)) (by omega) (by omega) ?_
      · as_aux_lemma => kernel_rfl
      · as_aux_lemma => kernel_rfl
      · as_aux_lemma => kernel_rfl
      · as_aux_lemma => kernel_rfl
      · as_aux_lemma => kernel_rfl
      refine QLOADE 47 (.tmp 19) 20 47 ?_ (Nat.le_of_ble_eq_true rfl) a_a (k * 6) 0 [vi y3.kind, vi y3.id, vi y3.cabin, vi y3.from', vi y3.size, vi y3.tier] (.agg #[vi y3.kind, vi y3.id, vi y3.cabin, vi y3.from', vi y3.size, vi y3.tier]) ?_ (fun w hw => (ha.fr hw.fr).flat hx_y3) ?_ ?_
      · as_aux_lemma => kernel_rfl
      · as_aux_lemma => kernel_rfl
      · as_aux_lemma => kernel_rfl
      refine QRUN 2 4 6 [(0, .v (.slice a_a a.length a_c)), (1, .v (.slice b_a b.length b_c)), (5, I (k : Int)), (20, .v (.agg #[vi y3.kind, vi y3.id, vi y3.cabin, vi y3.from', vi y3.size, vi y3.tier])), (21, .v (.slice b_a b.length b_c)), (22, I (k : Int))] ?_ rfl ?_
      · as_aux_lemma => kernel_rfl
      obtain ⟨x5, hx6⟩ : ∃ y, b[k]? = some y := ⟨_, List.getElem?_eq_getElem (by omega)⟩
      refine QINDEX 34 (.tmp 21) (.tmp 22) 23 0 ?_ (Nat.le_of_ble_eq_true rfl) b_a b.length b_c .i64 (k : Int) 47 6 ?_ ?_ ?_ ?_ (Rd.some hb (by omega)) (by omega) (by omega) ?_
      · as_aux_lemma => kernel_rfl
      · as_aux_lemma => kernel_rfl
      · as_aux_lemma => kernel_rfl
      · as_aux_lemma => kernel_rfl
      · as_aux_lemma => kernel_rfl
      refine QLOADE 47 (.tmp 23) 24 47 ?_ (Nat.le_of_ble_eq_true rfl) b_a (k * 6) 0 [vi x5.kind, vi x5.id, vi x5.cabin, vi x5.from', vi x5.size, vi x5.tier] (.agg #[vi x5.kind, vi x5.id, vi x5.cabin, vi x5.from', vi x5.size, vi x5.tier]) ?_ (fun w hw => (hb.fr hw.fr).flat hx6) ?_ ?_
      · as_aux_lemma => kernel_rfl
      · as_aux_lemma => kernel_rfl
      · as_aux_lemma => kernel_rfl
      refine QCALL 25 #[.agg #[vi y3.kind, vi y3.id, vi y3.cabin, vi y3.from', vi y3.size, vi y3.tier], .agg #[vi x5.kind, vi x5.id, vi x5.cabin, vi x5.from', vi x5.size, vi x5.tier]] (some 25) ?_ (.bool (eqReq y3 x5)) (fun w hw => eqReq_c w y3 x5) (by rintro _ ⟨⟩; exact Nat.le_of_ble_eq_true rfl) ?_
      · as_aux_lemma => kernel_rfl
      refine QRUN 1 9 10 [(0, .v (.slice a_a a.length a_c)), (1, .v (.slice b_a b.length b_c)), (5, I (k : Int)), (26, B (!(eqReq y3 x5)))] ?_ rfl ?_
      · as_aux_lemma => kernel_rfl
      refine QEND rfl (NEXT (IF (!(eqReq y3 x5)) ?_ (fun bh7 => ?_) (fun bh7 => ?_)))
      · as_aux_lemma => kernel_rfl
      · -- !(eqReq y3 x5) = true
        have h7 := bh7
        have h7 := notT h7
        refine SEQ (REGION [0] rfl (RUN0 1 [] [(4, B false)] ?_ rfl ?_))
        · as_aux_lemma => kernel_rfl
        refine ENDOPS (NEXT (RET (OUTR (PASS trivial (PASS trivial (OUTR (PASS trivial (FIN (.bool false) ?_ () ?_ [] ?_))))))))
        · as_aux_lemma => kernel_rfl
        · simp [RV, hv0, drop_get ‹b[k]? = some _›, eqReqs, *]
        · rfl
      · -- !(eqReq y3 x5) = false
        have h7 := bh7
        have h7 := notF h7
        refine SKIP (OUTN (NEXT (REGION [0, 1, 2] rfl (RUN0 2 [2] [(0, .v (.slice a_a a.length a_c)), (1, .v (.slice b_a b.length b_c)), (16, I (wr ((k : Int) + 1)))] ?_ rfl ?_))))
        · as_aux_lemma => kernel_rfl
        refine CAST (d := 16) (vi (wr ((k : Int) + 1))) (vi ((k + 1 : Nat) : Int)) ?_ (vi_cast (by omega) (by omega)) ?_
        · as_aux_lemma => kernel_rfl
        refine RUN0 1 [] [(0, .v (.slice a_a a.length a_c)), (1, .v (.slice b_a b.length b_c)), (5, I ((k + 1 : Nat) : Int))] ?_ rfl ?_
        · as_aux_lemma => kernel_rfl
        refine ENDOPS (BACK (k + 1, ys4) [0, 1, 5] 0 [] _ ⟨hl_y3, hd_y3, hv0.trans (by simp [eqReqs, drop_get ‹b[k]? = some _›, *])⟩ (by simp) ?_ rfl rfl rfl)
        · as_aux_lemma => kernel_rfl
    · -- decide ((k : Int) < (a.length : Int)) = false
      have h2 := bh2
      have h2 := of_decide_eq_false h2
      obtain rfl := drop_nil hk (by omega)
      refine EXIT (PASS trivial (PASS trivial (OUT (NEXT (SEQ (REGION [0] rfl (RUN0 1 [] [(4, B true)] ?_ rfl ?_)))))))
      · as_aux_lemma => kernel_rfl
      refine ENDOPS (NEXT (RET (FIN (.bool true) ?_ () ?_ [] ?_)))
      · as_aux_lemma => kernel_rfl
      · simp [RV, hv0, eqReqs, List.drop_eq_nil_of_le (show b.length ≤ k by simp at hk; omega)]
      · rfl

theorem sScriptText_c (W : World) (list : List Req) (list_a : Option Addr) (list_c : Nat) (hlist : Rd reqL W list_a list) : Spec Tryd.prog W [] 14 #[.slice list_a list.length list_c] (RV (.string (bs (scriptText list)))) := by
  refine ENTER0 (N := 33) (vs := [.slice list_a list.length list_c]) Tryd.func14 rfl rfl (Nat.le_of_ble_eq_true rfl) ?_
  have hlist_len := hlist.len
  refine SEQ (REGION [0] rfl (RUN0 1 [] [(0, .v (.slice list_a list.length list_c))] ?_ rfl ?_))
  · as_aux_lemma => kernel_rfl
  refine ENDOPS (NEXT (SEQ (REGION [0, 1] rfl (OPC (BUILDS 38 0 #[] 6 38 ?_ (Nat.le_of_ble_eq_true rfl) 5 [] ?_ byteL [] rfl (by simp only [maxLen]; omega) [] [] _ rfl (flatRep rfl) (fun a1 ha2 => ?_))))))
  · as_aux_lemma => kernel_rfl
  · as_aux_lemma => kernel_rfl
  refine RUN0 1 [] [(0, .v (.slice list_a list.length list_c)), (3, .v (.slice a1 0 0))] ?_ rfl ?_
  · as_aux_lemma => kernel_rfl
  refine ENDOPS (NEXT (SEQ (SEQ (REGION [0, 1, 2] rfl (RUN0 3 [] [(0, .v (.slice list_a list.length list_c)), (3, .v (.slice a1 0 0)), (9, B (decide ((list.length : Int) > 200)))] ?_ rfl ?_)))))
  · as_aux_lemma => kernel_rfl
  refine ENDOPS (NEXT (IF (decide ((list.length : Int) > 200)) ?_ (fun bh3 => ?_) (fun bh3 => ?_)))
  · as_aux_lemma => kernel_rfl
  · -- decide ((list.length : Int) > 200) = true
    have h3 := bh3
    have h3 := of_decide_eq_true h3
    have hB : 200 < list.length := by omega
    refine SEQ (REGION [0] rfl (RUN0 1 [] [(2, .v (.string (bs ([]))))] ?_ rfl ?_))
    · as_aux_lemma => kernel_rfl
    refine ENDOPS (NEXT (RET (PASS trivial (FIN (.string (bs ([]))) ?_ () ?_ [] ?_))))
    · as_aux_lemma => kernel_rfl
    · (first | (simp [RV, scriptText, *]; done) | (simp only [RV]; rw [scriptText, if_neg hB, hv0]; simp [scriptGo, *]))
    · rfl
  · -- decide ((list.length : Int) > 200) = false
    have h3 := bh3
    have h3 := of_decide_eq_false h3
    have hB : ¬ 200 < list.length := by omega
    refine SKIP (NEXT (SEQ (SEQ (REGION [0] rfl (RUN0 1 [] [(0, .v (.slice list_a list.length list_c)), (3, .v (.slice a1 0 0)), (4, I 0)] ?_ rfl ?_)))))
    · as_aux_lemma => kernel_rfl
    refine ENDOPS (NEXT (BLOCK (LOOP (ι := Nat × (List Req) × (Option Addr) × Nat × (List UInt8)) (fun j => [(0, .v (.slice list_a list.length list_c)), (3, .v (.slice j.2.2.1 j.2.2.2.2.length j.2.2.2.1)), (4, I (j.1 : Int))]) (fun j => []) (fun j => [slA 5 byteL (.slice j.2.2.1 j.2.2.2.2.length j.2.2.2.1) j.2.2.2.2]) (fun j => j.1 + j.2.1.length = list.length ∧ list.drop j.1 = j.2.1 ∧ scriptGo 0 [] list = scriptGo j.1 j.2.2.2.2 j.2.1 ∧ j.2.2.2.2.length ≤ 201 * j.1) (fun j => j.2.1.length) (0, list, a1, 0, []) [0, 3, 4] ⟨by simp, rfl, rfl, by simp⟩ ?_ rfl rfl ?_)))
    · as_aux_lemma => kernel_rfl
    rintro ⟨k, ys, oa, oc, out⟩ ⟨hk, hd, hv0, hv1⟩
    dsimp only at hk hd hv0 hv1
    refine SEQ (SEQ (REGION [0, 1, 2, 3] rfl (RUN0 4 [] [(0, .v (.slice list_a list.length list_c)), (3, .v (.slice oa out.length oc)), (4, I (k : Int)), (13, B (decide ((k : Int) < (list.length : Int))))] ?_ rfl ?_)))
    · as_aux_lemma => kernel_rfl
    refine ENDOPS (NEXT (IF (decide ((k : Int) < (list.length : Int))) ?_ (fun bh4 => ?_) (fun bh4 => ?_)))
    · as_aux_lemma => kernel_rfl
    · -- decide ((k : Int) < (list.length : Int)) = true
      have h4 := bh4
      have h4 := of_decide_eq_true h4
      obtain ⟨y5, ys6, rfl, hx_y5, hd_y5, hl_y5⟩ := drop_cons hd hk (by omega)
      refine SKIP (NEXT (SEQ (BLOCK (SEQ (REGION [0, 1, 2, 3, 4, 5] rfl (RUN0 2 [2, 3, 4, 5] [(0, .v (.slice list_a list.length list_c)), (3, .v (.slice oa out.length oc)), (4, I (k : Int)), (16, .v (.slice list_a list.length list_c)), (17, I (k : Int))] ?_ rfl ?_))))))
      · as_aux_lemma => kernel_rfl
      refine OPC (INDEX 34 (.tmp 16) (.tmp 17) 18 0 ?_ (Nat.le_of_ble_eq_true rfl) list_a list.length list_c .i64 (k : Int) 47 6 ?_ ?_ ?_ ?_ (Rd.some hlist (by omega)) (by omega) (by omega) ?_)
      · as_aux_lemma => kernel_rfl
      · as_aux_lemma => kernel_rfl
      · as_aux_lemma => kernel_rfl
      · as_aux_lemma => kernel_rfl
      · as_aux_lemma => kernel_rfl
      refine OPC (LOADE 47 (.tmp 18) 19 47 ?_ (Nat.le_of_ble_eq_true rfl) list_a (k * 6) 0 [vi y5.kind, vi y5.id, vi y5.cabin, vi y5.from', vi y5.size, vi y5.tier] (.agg #[vi y5.kind, vi y5.id, vi y5.cabin, vi y5.from', vi y5.size, vi y5.tier]) ?_ (fun w hw => (hlist.fr hw.fr).flat hx_y5) ?_ ?_)
      · as_aux_lemma => kernel_rfl
      · as_aux_lemma => kernel_rfl
      · as_aux_lemma => kernel_rfl
      refine OPC (CALL 36 #[.agg #[vi y5.kind, vi y5.id, vi y5.cabin, vi y5.from', vi y5.size, vi y5.tier]] (some 20) ?_ [] [] _ rfl (RV (.string (bs (reqLine y5)))) (fun w hw => sReqLine_c w y5) (by rintro _ ⟨⟩; exact Nat.le_of_ble_eq_true rfl) ?_)
      · as_aux_lemma => kernel_rfl
      rintro ⟨⟩
      have hr7 := reqLine_len y5
      refine RUN0 1 [] [(0, .v (.slice list_a list.length list_c)), (3, .v (.slice oa out.length oc)), (4, I (k : Int)), (5, .v (.string (bs (reqLine y5))))] ?_ rfl ?_
      · as_aux_lemma => kernel_rfl
      refine ENDOPS (NEXT (SEQ (SEQ (REGION [0, 1] rfl (RUN0 1 [1] [(0, .v (.slice list_a list.length list_c)), (3, .v (.slice oa out.length oc)), (4, I (k : Int)), (5, .v (.string (bs (reqLine y5)))), (21, .v (.string (bs (reqLine y5))))] ?_ rfl ?_)))))
      · as_aux_lemma => kernel_rfl
      refine OPC (RUNV (.binOp .eql 9 (.tmp 21) (.const (.string (bs ([])))) 9) 22 4 ?_ (Nat.le_of_ble_eq_true rfl) (.bool ((reqLine y5) == ([]))) (runs_seql (a := reqLine y5) (b := []) ?_ ?_) ?_)
      · as_aux_lemma => kernel_rfl
      · as_aux_lemma => kernel_rfl
      · as_aux_lemma => kernel_rfl
      refine ENDOPS (NEXT (IF ((reqLine y5) == ([])) ?_ (fun bh8 => ?_) (fun bh8 => ?_)))
      · as_aux_lemma => kernel_rfl
      · -- (reqLine y5) == ([]) = true
        have h8 := bh8
        have h8 := eq_of_beq h8
        refine SEQ (REGION [0] rfl (RUN0 1 [] [(2, .v (.string (bs ([]))))] ?_ rfl ?_))
        · as_aux_lemma => kernel_rfl
        refine ENDOPS (NEXT (RET (PASS trivial (OUTR (PASS trivial (PASS trivial (OUTR (PASS trivial (FIN (.string (bs ([]))) ?_ () ?_ [] ?_)))))))))
        · as_aux_lemma => kernel_rfl
        · (first | (simp [RV, scriptText, *]; done) | (simp only [RV]; rw [scriptText, if_neg hB, hv0]; simp [scriptGo, *]))
        · rfl
      · -- (reqLine y5) == ([]) = false
        have h8 := bh8
        have h8 := ne_of_beq_false h8
        refine SKIP (NEXT (SEQ (SEQ (REGION [0, 1] rfl (RUN0 2 [] [(0, .v (.slice list_a list.length list_c)), (3, .v (.slice oa out.length oc)), (4, I (k : Int)), (5, .v (.string (bs (reqLine y5)))), (24, B (decide ((k : Int) > 0)))] ?_ rfl ?_)))))
        · as_aux_lemma => kernel_rfl
        refine ENDOPS (NEXT (IF (decide ((k : Int) > 0)) ?_ (fun bh9 => ?_) (fun bh9 => ?_)))
        · as_aux_lemma => kernel_rfl
        · -- decide ((k : Int) > 0) = true
          have h9 := bh9
          have h9 := of_decide_eq_true h9
          refine REGION [0, 1, 2, 3] rfl (RUN0 1 [1, 2, 3] [(0, .v (.slice list_a list.length list_c)), (4, I (k : Int)), (5, .v (.string (bs (reqLine y5)))), (25, .v (.slice oa out.length oc))] ?_ rfl ?_)
          · as_aux_lemma => kernel_rfl
          refine OPC (BUILDS 38 1 #[(0, .const (.int .u8 10))] 26 38 ?_ (Nat.le_of_ble_eq_true rfl) 5 [.int .u8 10] ?_ byteL ([10] : List UInt8) rfl (by simp only [maxLen]; omega) [] [] _ rfl (flatRep rfl) (fun a10 ha11 => ?_))
          · as_aux_lemma => kernel_rfl
          · as_aux_lemma => kernel_rfl
          refine OPC (APPENDO 38 (.tmp 25) (.tmp 26) 27 38 ?_ (Nat.le_of_ble_eq_true rfl) (.slice oa out.length oc) a10 1 1 ?_ ?_ ha11 5 ?_ byteL (.int .u8 0) 1 ?_ rfl (by decide) 0 0 out ([10] : List UInt8) _ rfl rfl (by first | omega | (simp only [List.length_append, List.length_cons, List.length_nil, List.length_take, List.length_drop] at *; omega)) (by simp only [maxLen]; first | omega | (simp only [List.length_append, List.length_cons, List.length_nil, List.length_take, List.length_drop] at *; omega)) (fun a12 c13 hn14 => ?_))
          · as_aux_lemma => kernel_rfl
          · as_aux_lemma => kernel_rfl
          · as_aux_lemma => kernel_rfl
          · as_aux_lemma => kernel_rfl
          · as_aux_lemma => kernel_rfl
          refine RUN0 1 [] [(0, .v (.slice list_a list.length list_c)), (3, .v (.slice a12 ((out ++ ([10] : List UInt8)).length) c13)), (4, I (k : Int)), (5, .v (.string (bs (reqLine y5))))] ?_ rfl ?_
          · as_aux_lemma => kernel_rfl
          refine ENDOPS (NEXT (REGION [0, 1, 2, 3] rfl (RUN0 2 [2, 3] [(0, .v (.slice list_a list.length list_c)), (4, I (k : Int)), (28, .v (.slice a12 ((out ++ ([10] : List UInt8)).length) c13)), (29, .v (.string (bs (reqLine y5))))] ?_ rfl ?_)))
          · as_aux_lemma => kernel_rfl
          refine OPC (APPENDS 38 9 (.tmp 28) (.tmp 29) 30 38 ?_ (Nat.le_of_ble_eq_true rfl) (.slice a12 ((out ++ ([10] : List UInt8)).length) c13) (reqLine y5) ?_ ?_ 5 ?_ ?_ ?_ 0 (out ++ ([10] : List UInt8)) _ rfl (by first | omega | (simp only [List.length_append, List.length_cons, List.length_nil, List.length_take, List.length_drop] at *; omega)) (fun a15 c16 hn17 => ?_))
          · as_aux_lemma => kernel_rfl
          · as_aux_lemma => kernel_rfl
          · as_aux_lemma => kernel_rfl
          · as_aux_lemma => kernel_rfl
          · as_aux_lemma => kernel_rfl
          · as_aux_lemma => kernel_rfl
          refine RUN0 1 [] [(0, .v (.slice list_a list.length list_c)), (3, .v (.slice a15 (((out ++ ([10] : List UInt8)) ++ (reqLine y5)).length) c16)), (4, I (k : Int))] ?_ rfl ?_
          · as_aux_lemma => kernel_rfl
          refine ENDOPS (OUTN (NEXT (REGION [0, 1, 2] rfl (RUN0 2 [2] [(0, .v (.slice list_a list.length list_c)), (3, .v (.slice a15 (((out ++ ([10] : List UInt8)) ++ (reqLine y5)).length) c16)), (15, I (wr ((k : Int) + 1)))] ?_ rfl ?_))))
          · as_aux_lemma => kernel_rfl
          refine CAST (d := 15) (vi (wr ((k : Int) + 1))) (vi ((k + 1 : Nat) : Int)) ?_ (vi_cast (by omega) (by omega)) ?_
          · as_aux_lemma => kernel_rfl
          refine RUN0 1 [] [(0, .v (.slice list_a list.length list_c)), (3, .v (.slice a15 (((out ++ ([10] : List UInt8)) ++ (reqLine y5)).length) c16)), (4, I ((k + 1 : Nat) : Int))] ?_ rfl ?_
          · as_aux_lemma => kernel_rfl
          refine ENDOPS (BACK (k + 1, ys6, a15, c16, (out ++ ([10] : List UInt8)) ++ (reqLine y5)) [0, 3, 4] 0 [0] _ ⟨hl_y5, hd_y5, hv0.trans (by first | (have h0 : k = 0 := (by omega); simp [scriptGo, *]; done) | (have h0 : k ≠ 0 := (by omega); simp [scriptGo, *])), (by simp only [List.length_append, List.length_cons, List.length_nil]; omega)⟩ (by simp) ?_ rfl rfl rfl)
          · as_aux_lemma => kernel_rfl
        · -- decide ((k : Int) > 0) = false
          have h9 := bh9
          have h9 := of_decide_eq_false h9
          refine SKIP (NEXT (REGION [0, 1, 2, 3] rfl (RUN0 2 [2, 3] [(0, .v (.slice list_a list.length list_c)), (4, I (k : Int)), (28, .v (.slice oa out.length oc)), (29, .v (.string (bs (reqLine y5))))] ?_ rfl ?_)))
          · as_aux_lemma => kernel_rfl
          refine OPC (APPENDS 38 9 (.tmp 28) (.tmp 29) 30 38 ?_ (Nat.le_of_ble_eq_true rfl) (.slice oa out.length oc) (reqLine y5) ?_ ?_ 5 ?_ ?_ ?_ 0 out _ rfl (by first | omega | (simp only [List.length_append, List.length_cons, List.length_nil, List.length_take, List.length_drop] at *; omega)) (fun a18 c19 hn20 => ?_))
          · as_aux_lemma => kernel_rfl
          · as_aux_lemma => kernel_rfl
          · as_aux_lemma => kernel_rfl
          · as_aux_lemma => kernel_rfl
          · as_aux_lemma => kernel_rfl
          · as_aux_lemma => kernel_rfl
          refine RUN0 1 [] [(0, .v (.slice list_a list.length list_c)), (3, .v (.slice a18 ((out ++ (reqLine y5)).length) c19)), (4, I (k : Int))] ?_ rfl ?_
          · as_aux_lemma => kernel_rfl
          refine ENDOPS (OUTN (NEXT (REGION [0, 1, 2] rfl (RUN0 2 [2] [(0, .v (.slice list_a list.length list_c)), (3, .v (.slice a18 ((out ++ (reqLine y5)).length) c19)), (15, I (wr ((k : Int) + 1)))] ?_ rfl ?_))))
          · as_aux_lemma => kernel_rfl
          refine CAST (d := 15) (vi (wr ((k : Int) + 1))) (vi ((k + 1 : Nat) : Int)) ?_ (vi_cast (by omega) (by omega)) ?_
          · as_aux_lemma => kernel_rfl
          refine RUN0 1 [] [(0, .v (.slice list_a list.length list_c)), (3, .v (.slice a18 ((out ++ (reqLine y5)).length) c19)), (4, I ((k + 1 : Nat) : Int))] ?_ rfl ?_
          · as_aux_lemma => kernel_rfl
          refine ENDOPS (BACK (k + 1, ys6, a18, c19, out ++ (reqLine y5)) [0, 3, 4] 0 [0] _ ⟨hl_y5, hd_y5, hv0.trans (by first | (have h0 : k = 0 := (by omega); simp [scriptGo, *]; done) | (have h0 : k ≠ 0 := (by omega); simp [scriptGo, *])), (by simp only [List.length_append, List.length_cons, List.length_nil]; omega)⟩ (by simp) ?_ rfl rfl rfl)
          · as_aux_lemma => kernel_rfl
    · -- decide ((k : Int) < (list.length : Int)) = false
      have h4 := bh4
      have h4 := of_decide_eq_false h4
      obtain rfl := drop_nil hk (by omega)
      refine EXIT (PASS trivial (PASS trivial (OUT (NEXT (SEQ (REGION [0, 1, 2] rfl (RUN0 1 [1, 2] [(31, .v (.slice oa out.length oc))] ?_ rfl ?_)))))))
      · as_aux_lemma => kernel_rfl
      refine OPC (RUNV (.convert 38 9 (.tmp 31)) 32 9 ?_ (Nat.le_of_ble_eq_true rfl) (.string (bs out)) (runs_bstr (a := oa) (n := out.length) (c := oc) (xs := out) (e := 5) ?_ ?_ ?_ ?_ rfl (fun w hw => (Rd.own (hw.own 0 rfl)))) ?_)
      · as_aux_lemma => kernel_rfl
      · as_aux_lemma => kernel_rfl
      · as_aux_lemma => kernel_rfl
      · as_aux_lemma => kernel_rfl
      · as_aux_lemma => kernel_rfl
      refine RUN0 1 [] [(2, .v (.string (bs out)))] ?_ rfl ?_
      · as_aux_lemma => kernel_rfl
      refine ENDOPS (NEXT (RET (FIN (.string (bs out)) ?_ () ?_ [] ?_)))
      · as_aux_lemma => kernel_rfl
      · (first | (simp [RV, scriptText, *]; done) | (simp only [RV]; rw [scriptText, if_neg hB, hv0]; simp [scriptGo, *]))
      · rfl

end SX
end Go.Proofs.YtpdijcbgdalphaaDoor
