/- Walks, printed by program. -/
import Derived.Test.YtpdijcbgdalphabGreatDoorE8
import Derived.Test.YtpdijcbgdalphabGreatDoorShelf
import Derived.Test.YtpdijcbgdalphabGreatDoorMdl8
import Derived.Test.YtpdijcbgdalphabGreatDoorSxj
namespace Go.Proofs.YtpdijcbgdalphabGreatDoor
namespace SX
open Go Go.RowKit
set_option linter.unusedVariables false
set_option linter.unusedSimpArgs false
set_option maxRecDepth 10000
set_option maxHeartbeats 400000
theorem within_c (W : World) (n : Int) (lo : Int) (hi : Int) : Spec Tryz.prog W [] 39 #[vi n, vi lo, vi hi] (RV (.bool (inB n lo hi))) := by
 refine ENTER0 (N := 15) (vs := [vi n, vi lo, vi hi]) Tryz.func39 rfl rfl (NL rfl) ?_
 refine SEQ (REGION [0] rfl (RUN0 1 [] [(0, I n), (1, I lo), (2, I hi)] ?_ rfl ?_))
 · as_aux_lemma => kernel_rfl
 refine ENDOPS (NEXT (SEQ (REGION [0, 1, 2, 3, 4, 5, 6, 7, 8] rfl (RUN0 4 [4, 5, 6, 7, 8] [(0, I n), (2, I hi), (10, B (decide (n ≥ lo)))] ?_ rfl ?_))))
 · as_aux_lemma => kernel_rfl
 refine SPLIT (d := 10) (decide (n ≥ lo)) ?_ (fun bh1 => ?_) (fun bh1 => ?_)
 · as_aux_lemma => kernel_rfl
 ·
  have h1 := bh1
  have h1 := of_decide_eq_true h1
  refine RUN0 5 [] [(6, B (decide (n ≤ hi)))] ?_ rfl ?_
  · as_aux_lemma => kernel_rfl
  refine ENDOPS (NEXT (RET (FIN (.bool (decide (n ≤ hi))) ?_ () ?_ [] ?_)))
  · as_aux_lemma => kernel_rfl
  · simp [RV, inB, *]
  · rfl
 ·
  have h1 := bh1
  have h1 := of_decide_eq_false h1
  refine RUN0 5 [] [(6, B false)] ?_ rfl ?_
  · as_aux_lemma => kernel_rfl
  refine ENDOPS (NEXT (RET (FIN (.bool false) ?_ () ?_ [] ?_)))
  · as_aux_lemma => kernel_rfl
  · simp [RV, inB, *]
  · rfl

theorem iReqOk1_c (W : World) (n : Int) : Spec Tryz.prog W [] 38 #[vi n] (RV (.bool (usedB n))) := by
 refine ENTER0 (N := 5) (vs := [vi n]) Tryz.func38 rfl rfl (NL rfl) ?_
 refine SEQ (REGION [0] rfl (RUN0 1 [] [(0, I n)] ?_ rfl ?_))
 · as_aux_lemma => kernel_rfl
 refine ENDOPS (NEXT (SEQ (REGION [0, 1, 2] rfl (RUN0 1 [1, 2] [(3, I n)] ?_ rfl ?_))))
 · as_aux_lemma => kernel_rfl
 refine OPC (CALL 39 #[vi n, vi 0, vi 9999] (some 4) ?_ [] [] _ rfl (RV (.bool (inB n 0 9999))) (fun w hw => within_c w n 0 9999) (NO rfl) ?_)
 · as_aux_lemma => kernel_rfl
 rintro ⟨⟩
 refine RUN0 1 [] [(2, B (inB n 0 9999))] ?_ rfl ?_
 · as_aux_lemma => kernel_rfl
 refine ENDOPS (NEXT (RET (FIN (.bool (inB n 0 9999)) ?_ () ?_ [] ?_)))
 · as_aux_lemma => kernel_rfl
 · simp [RV, usedB]
 · rfl

theorem iReqOk_c (W : World) (q : Req) : Spec Tryz.prog W [] 21 #[.agg #[vi q.kind, vi q.id, vi q.cabin, vi q.from', vi q.size, vi q.tier]] (RV (.bool (reqOk q))) := by
 refine ENTER0 (N := 81) (vs := [.agg #[vi q.kind, vi q.id, vi q.cabin, vi q.from', vi q.size, vi q.tier]]) Tryz.func21 rfl rfl (NL rfl) ?_
 refine SEQ (REGION [0, 1] rfl (RUN 2 [] [(1, .p 0 0)] [(30, [vi q.kind, vi q.id, vi q.cabin, vi q.from', vi q.size, vi q.tier])] ?_ rfl ?_))
 · as_aux_lemma => kernel_rfl
 refine ENDOPS (NEXT (SEQ (REGION [0] rfl (RUN0 1 [] [(1, .p 0 0), (3, .v (.func (.func 38) #[] #[]))] ?_ rfl ?_))))
 · as_aux_lemma => kernel_rfl
 refine ENDOPS (NEXT (SEQ (SEQ (REGION [0, 1] rfl (RUN0 2 [] [(1, .p 0 0), (3, .v (.func (.func 38) #[] #[])), (5, I q.kind)] ?_ rfl ?_)))))
 · as_aux_lemma => kernel_rfl
 refine ENDOPS (NEXT (BLOCK (SEQ (REGION [0, 1] rfl (RUN0 2 [] [(1, .p 0 0), (3, .v (.func (.func 38) #[] #[])), (5, I q.kind), (6, B (q.kind == 1))] ?_ rfl ?_)))))
 · as_aux_lemma => kernel_rfl
 refine ENDOPS (NEXT (IF (q.kind == 1) ?_ (fun bh1 => ?_) (fun bh1 => ?_)))
 · as_aux_lemma => kernel_rfl
 ·
  have h1 := bh1
  have h1 := eq_of_beq h1
  refine SEQ (REGION [0, 1, 2, 3, 4, 5, 6, 7, 8, 9, 10, 11, 12, 13, 14, 15, 16, 17, 18, 19, 20, 21, 22, 23, 24, 25, 26, 27] rfl (RUN0 3 [3, 4, 5, 6, 7, 8, 9, 10, 11, 12, 13, 14, 15, 16, 17, 18, 19, 20, 21, 22, 23, 24, 25, 26, 27] [(1, .p 0 0), (3, .v (.func (.func 38) #[] #[])), (8, .v (.func (.func 38) #[] #[])), (10, I q.id)] ?_ rfl ?_))
  · as_aux_lemma => kernel_rfl
  refine OPC (CALL 38 #[vi q.id] (some 11) ?_ [] [] _ rfl (RV (.bool (usedB q.id))) (fun w hw => iReqOk1_c w q.id) (NO rfl) ?_)
  · as_aux_lemma => kernel_rfl
  rintro ⟨⟩
  refine RUN0 1 [5, 6, 7, 8, 9, 10, 11, 12, 13, 14, 15, 16, 17, 18, 19, 20, 21, 22, 23, 24, 25, 26, 27] [(1, .p 0 0), (3, .v (.func (.func 38) #[] #[])), (12, B (usedB q.id))] ?_ rfl ?_
  · as_aux_lemma => kernel_rfl
  refine SPLIT (d := 12) (usedB q.id) ?_ (fun bh2 => ?_) (fun bh2 => ?_)
  · as_aux_lemma => kernel_rfl
  ·
   have h2 := bh2
   refine RUN0 3 [8, 9, 10, 11, 12, 13, 14, 15, 16, 17, 18, 19, 20, 21, 22, 23, 24, 25, 26, 27] [(1, .p 0 0), (3, .v (.func (.func 38) #[] #[])), (12, B true), (13, .v (.func (.func 38) #[] #[])), (15, I q.cabin)] ?_ rfl ?_
   · as_aux_lemma => kernel_rfl
   refine OPC (CALL 38 #[vi q.cabin] (some 16) ?_ [] [] _ rfl (RV (.bool (usedB q.cabin))) (fun w hw => iReqOk1_c w q.cabin) (NO rfl) ?_)
   · as_aux_lemma => kernel_rfl
   rintro ⟨⟩
   refine RUN0 2 [11, 12, 13, 14, 15, 16, 17, 18, 19, 20, 21, 22, 23, 24, 25, 26, 27] [(1, .p 0 0), (3, .v (.func (.func 38) #[] #[])), (18, B (usedB q.cabin))] ?_ rfl ?_
   · as_aux_lemma => kernel_rfl
   refine SPLIT (d := 18) (usedB q.cabin) ?_ (fun bh3 => ?_) (fun bh3 => ?_)
   · as_aux_lemma => kernel_rfl
   ·
    have h3 := bh3
    refine RUN0 2 [13, 14, 15, 16, 17, 18, 19, 20, 21, 22, 23, 24, 25, 26, 27] [(1, .p 0 0), (3, .v (.func (.func 38) #[] #[])), (18, B true), (20, I q.from')] ?_ rfl ?_
    · as_aux_lemma => kernel_rfl
    refine OPC (CALL 39 #[vi q.from', vi (-1), vi 9999] (some 21) ?_ [] [] _ rfl (RV (.bool (inB q.from' (-1) 9999))) (fun w hw => within_c w q.from' (-1) 9999) (NO rfl) ?_)
    · as_aux_lemma => kernel_rfl
    rintro ⟨⟩
    refine RUN0 2 [16, 17, 18, 19, 20, 21, 22, 23, 24, 25, 26, 27] [(1, .p 0 0), (3, .v (.func (.func 38) #[] #[])), (23, B (inB q.from' (-1) 9999))] ?_ rfl ?_
    · as_aux_lemma => kernel_rfl
    refine SPLIT (d := 23) (inB q.from' (-1) 9999) ?_ (fun bh4 => ?_) (fun bh4 => ?_)
    · as_aux_lemma => kernel_rfl
    ·
     have h4 := bh4
     refine RUN0 3 [19, 20, 21, 22, 23, 24, 25, 26, 27] [(1, .p 0 0), (3, .v (.func (.func 38) #[] #[])), (23, B true), (24, .v (.func (.func 38) #[] #[])), (26, I q.size)] ?_ rfl ?_
     · as_aux_lemma => kernel_rfl
     refine OPC (CALL 38 #[vi q.size] (some 27) ?_ [] [] _ rfl (RV (.bool (usedB q.size))) (fun w hw => iReqOk1_c w q.size) (NO rfl) ?_)
     · as_aux_lemma => kernel_rfl
     rintro ⟨⟩
     refine RUN0 2 [22, 23, 24, 25, 26, 27] [(1, .p 0 0), (3, .v (.func (.func 38) #[] #[])), (29, B (usedB q.size))] ?_ rfl ?_
     · as_aux_lemma => kernel_rfl
     refine SPLIT (d := 29) (usedB q.size) ?_ (fun bh5 => ?_) (fun bh5 => ?_)
     · as_aux_lemma => kernel_rfl
     ·
      have h5 := bh5
      refine RUN0 3 [25, 26, 27] [(29, B true), (30, .v (.func (.func 38) #[] #[])), (32, I q.tier)] ?_ rfl ?_
      · as_aux_lemma => kernel_rfl
      refine OPC (CALL 38 #[vi q.tier] (some 33) ?_ [] [] _ rfl (RV (.bool (usedB q.tier))) (fun w hw => iReqOk1_c w q.tier) (NO rfl) ?_)
      · as_aux_lemma => kernel_rfl
      rintro ⟨⟩
      refine RUN0 2 [] [(2, B (usedB q.tier))] ?_ rfl ?_
      · as_aux_lemma => kernel_rfl
      refine ENDOPS (NEXT (RET (OUTR (PASS trivial (FIN (.bool (usedB q.tier)) ?_ () ?_ [] ?_)))))
      · as_aux_lemma => kernel_rfl
      · simp [RV, reqOk, reqEq, *]
      · rfl
     ·
      have h5 := bh5
      refine RUN0 6 [] [(2, B false)] ?_ rfl ?_
      · as_aux_lemma => kernel_rfl
      refine ENDOPS (NEXT (RET (OUTR (PASS trivial (FIN (.bool false) ?_ () ?_ [] ?_)))))
      · as_aux_lemma => kernel_rfl
      · simp [RV, reqOk, reqEq, *]
      · rfl
    ·
     have h4 := bh4
     refine RUN0 12 [] [(2, B false)] ?_ rfl ?_
     · as_aux_lemma => kernel_rfl
     refine ENDOPS (NEXT (RET (OUTR (PASS trivial (FIN (.bool false) ?_ () ?_ [] ?_)))))
     · as_aux_lemma => kernel_rfl
     · simp [RV, reqOk, reqEq, *]
     · rfl
   ·
    have h3 := bh3
    refine RUN0 17 [] [(2, B false)] ?_ rfl ?_
    · as_aux_lemma => kernel_rfl
    refine ENDOPS (NEXT (RET (OUTR (PASS trivial (FIN (.bool false) ?_ () ?_ [] ?_)))))
    · as_aux_lemma => kernel_rfl
    · simp [RV, reqOk, reqEq, *]
    · rfl
  ·
   have h2 := bh2
   refine RUN0 23 [] [(2, B false)] ?_ rfl ?_
   · as_aux_lemma => kernel_rfl
   refine ENDOPS (NEXT (RET (OUTR (PASS trivial (FIN (.bool false) ?_ () ?_ [] ?_)))))
   · as_aux_lemma => kernel_rfl
   · simp [RV, reqOk, reqEq, *]
   · rfl
 ·
  have h1 := bh1
  have h1 := ne_of_beq_false h1
  refine SEQ (SEQ (REGION [0, 1] rfl (RUN0 2 [] [(1, .p 0 0), (3, .v (.func (.func 38) #[] #[])), (5, I q.kind), (35, B (q.kind == 2))] ?_ rfl ?_)))
  · as_aux_lemma => kernel_rfl
  refine ENDOPS (NEXT (IF (q.kind == 2) ?_ (fun bh6 => ?_) (fun bh6 => ?_)))
  · as_aux_lemma => kernel_rfl
  ·
   have h6 := bh6
   have h6 := eq_of_beq h6
   refine SKIP (NEXT (IF (q.kind == 2) ?_ (fun bh7 => ?_) (fun bh7 => ?_)))
   · as_aux_lemma => kernel_rfl
   ·
    have h7 := bh7
    have h7 := eq_of_beq h7
    refine SEQ (REGION [0, 1, 2, 3, 4, 5, 6, 7, 8, 9, 10, 11, 12, 13] rfl (RUN0 3 [3, 4, 5, 6, 7, 8, 9, 10, 11, 12, 13] [(1, .p 0 0), (40, .v (.func (.func 38) #[] #[])), (42, I q.id)] ?_ rfl ?_))
    · as_aux_lemma => kernel_rfl
    refine OPC (CALL 38 #[vi q.id] (some 43) ?_ [] [] _ rfl (RV (.bool (usedB q.id))) (fun w hw => iReqOk1_c w q.id) (NO rfl) ?_)
    · as_aux_lemma => kernel_rfl
    rintro ⟨⟩
    refine RUN0 1 [5, 6, 7, 8, 9, 10, 11, 12, 13] [(1, .p 0 0), (44, B (usedB q.id))] ?_ rfl ?_
    · as_aux_lemma => kernel_rfl
    refine SPLIT (d := 44) (usedB q.id) ?_ (fun bh8 => ?_) (fun bh8 => ?_)
    · as_aux_lemma => kernel_rfl
    ·
     have h8 := bh8
     refine RUN0 6 [11, 12, 13] [(44, B true), (45, .v (.agg #[vi q.kind, vi q.id, vi q.cabin, vi q.from', vi q.size, vi q.tier])), (50, .v (.agg #[vi q.kind, vi q.id, vi 0, vi 0, vi 0, vi 0]))] ?_ rfl ?_
     · as_aux_lemma => kernel_rfl
     refine OPC (RUNV (.binOp .eql 30 (.tmp 45) (.tmp 50) 30) 51 4 ?_ (NL rfl) (.bool ((q.kind == q.kind) && ((q.id == q.id) && ((q.cabin == 0) && ((q.from' == 0) && ((q.size == 0) && ((q.tier == 0) && true))))))) (runs_eql (xs := [vi q.kind, vi q.id, vi q.cabin, vi q.from', vi q.size, vi q.tier]) (ys := [vi q.kind, vi q.id, vi 0, vi 0, vi 0, vi 0]) (r := (q.kind == q.kind) && ((q.id == q.id) && ((q.cabin == 0) && ((q.from' == 0) && ((q.size == 0) && ((q.tier == 0) && true)))))) ?_ ?_ ?_) ?_)
     iterate 4 (as_aux_lemma => kernel_rfl)
     refine RUN0 2 [] [(2, B ((q.kind == q.kind) && ((q.id == q.id) && ((q.cabin == 0) && ((q.from' == 0) && ((q.size == 0) && ((q.tier == 0) && true)))))))] ?_ rfl ?_
     · as_aux_lemma => kernel_rfl
     refine ENDOPS (NEXT (RET (OUTR (PASS trivial (FIN (.bool ((q.kind == q.kind) && ((q.id == q.id) && ((q.cabin == 0) && ((q.from' == 0) && ((q.size == 0) && ((q.tier == 0) && true))))))) ?_ () ?_ [] ?_)))))
     · as_aux_lemma => kernel_rfl
     · simp [RV, reqOk, reqEq, *]
     · rfl
    ·
     have h8 := bh8
     refine RUN0 9 [] [(2, B false)] ?_ rfl ?_
     · as_aux_lemma => kernel_rfl
     refine ENDOPS (NEXT (RET (OUTR (PASS trivial (FIN (.bool false) ?_ () ?_ [] ?_)))))
     · as_aux_lemma => kernel_rfl
     · simp [RV, reqOk, reqEq, *]
     · rfl
   · exact Bool.noConfusion (bh6.symm.trans bh7)
  ·
   have h6 := bh6
   have h6 := ne_of_beq_false h6
   refine SEQ (REGION [0, 1] rfl (RUN0 2 [] [(1, .p 0 0), (3, .v (.func (.func 38) #[] #[])), (5, I q.kind), (35, B (q.kind == 4))] ?_ rfl ?_))
   · as_aux_lemma => kernel_rfl
   refine ENDOPS (NEXT (IF (q.kind == 4) ?_ (fun bh9 => ?_) (fun bh9 => ?_)))
   · as_aux_lemma => kernel_rfl
   ·
    have h9 := bh9
    have h9 := eq_of_beq h9
    refine SKIP (NEXT (IF (q.kind == 4) ?_ (fun bh10 => ?_) (fun bh10 => ?_)))
    · as_aux_lemma => kernel_rfl
    ·
     have h10 := bh10
     have h10 := eq_of_beq h10
     refine SEQ (REGION [0, 1, 2, 3, 4, 5, 6, 7, 8, 9, 10, 11, 12, 13] rfl (RUN0 3 [3, 4, 5, 6, 7, 8, 9, 10, 11, 12, 13] [(1, .p 0 0), (40, .v (.func (.func 38) #[] #[])), (42, I q.id)] ?_ rfl ?_))
     · as_aux_lemma => kernel_rfl
     refine OPC (CALL 38 #[vi q.id] (some 43) ?_ [] [] _ rfl (RV (.bool (usedB q.id))) (fun w hw => iReqOk1_c w q.id) (NO rfl) ?_)
     · as_aux_lemma => kernel_rfl
     rintro ⟨⟩
     refine RUN0 1 [5, 6, 7, 8, 9, 10, 11, 12, 13] [(1, .p 0 0), (44, B (usedB q.id))] ?_ rfl ?_
     · as_aux_lemma => kernel_rfl
     refine SPLIT (d := 44) (usedB q.id) ?_ (fun bh11 => ?_) (fun bh11 => ?_)
     · as_aux_lemma => kernel_rfl
     ·
      have h11 := bh11
      refine RUN0 6 [11, 12, 13] [(44, B true), (45, .v (.agg #[vi q.kind, vi q.id, vi q.cabin, vi q.from', vi q.size, vi q.tier])), (50, .v (.agg #[vi q.kind, vi q.id, vi 0, vi 0, vi 0, vi 0]))] ?_ rfl ?_
      · as_aux_lemma => kernel_rfl
      refine OPC (RUNV (.binOp .eql 30 (.tmp 45) (.tmp 50) 30) 51 4 ?_ (NL rfl) (.bool ((q.kind == q.kind) && ((q.id == q.id) && ((q.cabin == 0) && ((q.from' == 0) && ((q.size == 0) && ((q.tier == 0) && true))))))) (runs_eql (xs := [vi q.kind, vi q.id, vi q.cabin, vi q.from', vi q.size, vi q.tier]) (ys := [vi q.kind, vi q.id, vi 0, vi 0, vi 0, vi 0]) (r := (q.kind == q.kind) && ((q.id == q.id) && ((q.cabin == 0) && ((q.from' == 0) && ((q.size == 0) && ((q.tier == 0) && true)))))) ?_ ?_ ?_) ?_)
      iterate 4 (as_aux_lemma => kernel_rfl)
      refine RUN0 2 [] [(2, B ((q.kind == q.kind) && ((q.id == q.id) && ((q.cabin == 0) && ((q.from' == 0) && ((q.size == 0) && ((q.tier == 0) && true)))))))] ?_ rfl ?_
      · as_aux_lemma => kernel_rfl
      refine ENDOPS (NEXT (RET (OUTR (PASS trivial (FIN (.bool ((q.kind == q.kind) && ((q.id == q.id) && ((q.cabin == 0) && ((q.from' == 0) && ((q.size == 0) && ((q.tier == 0) && true))))))) ?_ () ?_ [] ?_)))))
      · as_aux_lemma => kernel_rfl
      · simp [RV, reqOk, reqEq, *]
      · rfl
     ·
      have h11 := bh11
      refine RUN0 9 [] [(2, B false)] ?_ rfl ?_
      · as_aux_lemma => kernel_rfl
      refine ENDOPS (NEXT (RET (OUTR (PASS trivial (FIN (.bool false) ?_ () ?_ [] ?_)))))
      · as_aux_lemma => kernel_rfl
      · simp [RV, reqOk, reqEq, *]
      · rfl
    · exact Bool.noConfusion (bh9.symm.trans bh10)
   ·
    have h9 := bh9
    have h9 := ne_of_beq_false h9
    refine SEQ (REGION [0, 1] rfl (RUN0 2 [] [(1, .p 0 0), (3, .v (.func (.func 38) #[] #[])), (5, I q.kind), (35, B (q.kind == 5))] ?_ rfl ?_))
    · as_aux_lemma => kernel_rfl
    refine ENDOPS (NEXT (IF (q.kind == 5) ?_ (fun bh12 => ?_) (fun bh12 => ?_)))
    · as_aux_lemma => kernel_rfl
    ·
     have h12 := bh12
     have h12 := eq_of_beq h12
     refine SKIP (NEXT (IF (q.kind == 5) ?_ (fun bh13 => ?_) (fun bh13 => ?_)))
     · as_aux_lemma => kernel_rfl
     ·
      have h13 := bh13
      have h13 := eq_of_beq h13
      refine SEQ (REGION [0, 1, 2, 3, 4, 5, 6, 7, 8, 9, 10, 11, 12, 13] rfl (RUN0 3 [3, 4, 5, 6, 7, 8, 9, 10, 11, 12, 13] [(1, .p 0 0), (40, .v (.func (.func 38) #[] #[])), (42, I q.id)] ?_ rfl ?_))
      · as_aux_lemma => kernel_rfl
      refine OPC (CALL 38 #[vi q.id] (some 43) ?_ [] [] _ rfl (RV (.bool (usedB q.id))) (fun w hw => iReqOk1_c w q.id) (NO rfl) ?_)
      · as_aux_lemma => kernel_rfl
      rintro ⟨⟩
      refine RUN0 1 [5, 6, 7, 8, 9, 10, 11, 12, 13] [(1, .p 0 0), (44, B (usedB q.id))] ?_ rfl ?_
      · as_aux_lemma => kernel_rfl
      refine SPLIT (d := 44) (usedB q.id) ?_ (fun bh14 => ?_) (fun bh14 => ?_)
      · as_aux_lemma => kernel_rfl
      ·
       have h14 := bh14
       refine RUN0 6 [11, 12, 13] [(44, B true), (45, .v (.agg #[vi q.kind, vi q.id, vi q.cabin, vi q.from', vi q.size, vi q.tier])), (50, .v (.agg #[vi q.kind, vi q.id, vi 0, vi 0, vi 0, vi 0]))] ?_ rfl ?_
       · as_aux_lemma => kernel_rfl
       refine OPC (RUNV (.binOp .eql 30 (.tmp 45) (.tmp 50) 30) 51 4 ?_ (NL rfl) (.bool ((q.kind == q.kind) && ((q.id == q.id) && ((q.cabin == 0) && ((q.from' == 0) && ((q.size == 0) && ((q.tier == 0) && true))))))) (runs_eql (xs := [vi q.kind, vi q.id, vi q.cabin, vi q.from', vi q.size, vi q.tier]) (ys := [vi q.kind, vi q.id, vi 0, vi 0, vi 0, vi 0]) (r := (q.kind == q.kind) && ((q.id == q.id) && ((q.cabin == 0) && ((q.from' == 0) && ((q.size == 0) && ((q.tier == 0) && true)))))) ?_ ?_ ?_) ?_)
       iterate 4 (as_aux_lemma => kernel_rfl)
       refine RUN0 2 [] [(2, B ((q.kind == q.kind) && ((q.id == q.id) && ((q.cabin == 0) && ((q.from' == 0) && ((q.size == 0) && ((q.tier == 0) && true)))))))] ?_ rfl ?_
       · as_aux_lemma => kernel_rfl
       refine ENDOPS (NEXT (RET (OUTR (PASS trivial (FIN (.bool ((q.kind == q.kind) && ((q.id == q.id) && ((q.cabin == 0) && ((q.from' == 0) && ((q.size == 0) && ((q.tier == 0) && true))))))) ?_ () ?_ [] ?_)))))
       · as_aux_lemma => kernel_rfl
       · simp [RV, reqOk, reqEq, *]
       · rfl
      ·
       have h14 := bh14
       refine RUN0 9 [] [(2, B false)] ?_ rfl ?_
       · as_aux_lemma => kernel_rfl
       refine ENDOPS (NEXT (RET (OUTR (PASS trivial (FIN (.bool false) ?_ () ?_ [] ?_)))))
       · as_aux_lemma => kernel_rfl
       · simp [RV, reqOk, reqEq, *]
       · rfl
     · exact Bool.noConfusion (bh12.symm.trans bh13)
    ·
     have h12 := bh12
     have h12 := ne_of_beq_false h12
     refine REGION [0, 1] rfl (RUN0 2 [] [(1, .p 0 0), (3, .v (.func (.func 38) #[] #[])), (5, I q.kind), (35, B (q.kind == 7))] ?_ rfl ?_)
     · as_aux_lemma => kernel_rfl
     refine ENDOPS (NEXT (IF (q.kind == 7) ?_ (fun bh15 => ?_) (fun bh15 => ?_)))
     · as_aux_lemma => kernel_rfl
     ·
      have h15 := bh15
      have h15 := eq_of_beq h15
      refine SEQ (REGION [0, 1, 2, 3, 4, 5, 6, 7, 8, 9, 10, 11, 12, 13] rfl (RUN0 3 [3, 4, 5, 6, 7, 8, 9, 10, 11, 12, 13] [(1, .p 0 0), (40, .v (.func (.func 38) #[] #[])), (42, I q.id)] ?_ rfl ?_))
      · as_aux_lemma => kernel_rfl
      refine OPC (CALL 38 #[vi q.id] (some 43) ?_ [] [] _ rfl (RV (.bool (usedB q.id))) (fun w hw => iReqOk1_c w q.id) (NO rfl) ?_)
      · as_aux_lemma => kernel_rfl
      rintro ⟨⟩
      refine RUN0 1 [5, 6, 7, 8, 9, 10, 11, 12, 13] [(1, .p 0 0), (44, B (usedB q.id))] ?_ rfl ?_
      · as_aux_lemma => kernel_rfl
      refine SPLIT (d := 44) (usedB q.id) ?_ (fun bh16 => ?_) (fun bh16 => ?_)
      · as_aux_lemma => kernel_rfl
      ·
       have h16 := bh16
       refine RUN0 6 [11, 12, 13] [(44, B true), (45, .v (.agg #[vi q.kind, vi q.id, vi q.cabin, vi q.from', vi q.size, vi q.tier])), (50, .v (.agg #[vi q.kind, vi q.id, vi 0, vi 0, vi 0, vi 0]))] ?_ rfl ?_
       · as_aux_lemma => kernel_rfl
       refine OPC (RUNV (.binOp .eql 30 (.tmp 45) (.tmp 50) 30) 51 4 ?_ (NL rfl) (.bool ((q.kind == q.kind) && ((q.id == q.id) && ((q.cabin == 0) && ((q.from' == 0) && ((q.size == 0) && ((q.tier == 0) && true))))))) (runs_eql (xs := [vi q.kind, vi q.id, vi q.cabin, vi q.from', vi q.size, vi q.tier]) (ys := [vi q.kind, vi q.id, vi 0, vi 0, vi 0, vi 0]) (r := (q.kind == q.kind) && ((q.id == q.id) && ((q.cabin == 0) && ((q.from' == 0) && ((q.size == 0) && ((q.tier == 0) && true)))))) ?_ ?_ ?_) ?_)
       iterate 4 (as_aux_lemma => kernel_rfl)
       refine RUN0 2 [] [(2, B ((q.kind == q.kind) && ((q.id == q.id) && ((q.cabin == 0) && ((q.from' == 0) && ((q.size == 0) && ((q.tier == 0) && true)))))))] ?_ rfl ?_
       · as_aux_lemma => kernel_rfl
       refine ENDOPS (NEXT (RET (OUTR (PASS trivial (FIN (.bool ((q.kind == q.kind) && ((q.id == q.id) && ((q.cabin == 0) && ((q.from' == 0) && ((q.size == 0) && ((q.tier == 0) && true))))))) ?_ () ?_ [] ?_)))))
       · as_aux_lemma => kernel_rfl
       · simp [RV, reqOk, reqEq, *]
       · rfl
      ·
       have h16 := bh16
       refine RUN0 9 [] [(2, B false)] ?_ rfl ?_
       · as_aux_lemma => kernel_rfl
       refine ENDOPS (NEXT (RET (OUTR (PASS trivial (FIN (.bool false) ?_ () ?_ [] ?_)))))
       · as_aux_lemma => kernel_rfl
       · simp [RV, reqOk, reqEq, *]
       · rfl
     ·
      have h15 := bh15
      have h15 := ne_of_beq_false h15
      refine SEQ (REGION [0, 1] rfl (RUN0 2 [] [(1, .p 0 0), (3, .v (.func (.func 38) #[] #[])), (5, I q.kind), (53, B (q.kind == 3))] ?_ rfl ?_))
      · as_aux_lemma => kernel_rfl
      refine ENDOPS (NEXT (IF (q.kind == 3) ?_ (fun bh17 => ?_) (fun bh17 => ?_)))
      · as_aux_lemma => kernel_rfl
      ·
       have h17 := bh17
       have h17 := eq_of_beq h17
       refine SEQ (REGION [0, 1, 2, 3, 4, 5, 6, 7, 8, 9, 10, 11, 12, 13, 14, 15, 16, 17, 18, 19, 20, 21] rfl (RUN0 3 [3, 4, 5, 6, 7, 8, 9, 10, 11, 12, 13, 14, 15, 16, 17, 18, 19, 20, 21] [(1, .p 0 0), (3, .v (.func (.func 38) #[] #[])), (55, .v (.func (.func 38) #[] #[])), (57, I q.cabin)] ?_ rfl ?_))
       · as_aux_lemma => kernel_rfl
       refine OPC (CALL 38 #[vi q.cabin] (some 58) ?_ [] [] _ rfl (RV (.bool (usedB q.cabin))) (fun w hw => iReqOk1_c w q.cabin) (NO rfl) ?_)
       · as_aux_lemma => kernel_rfl
       rintro ⟨⟩
       refine RUN0 1 [5, 6, 7, 8, 9, 10, 11, 12, 13, 14, 15, 16, 17, 18, 19, 20, 21] [(1, .p 0 0), (3, .v (.func (.func 38) #[] #[])), (59, B (usedB q.cabin))] ?_ rfl ?_
       · as_aux_lemma => kernel_rfl
       refine SPLIT (d := 59) (usedB q.cabin) ?_ (fun bh18 => ?_) (fun bh18 => ?_)
       · as_aux_lemma => kernel_rfl
       ·
        have h18 := bh18
        refine RUN0 3 [8, 9, 10, 11, 12, 13, 14, 15, 16, 17, 18, 19, 20, 21] [(1, .p 0 0), (59, B true), (60, .v (.func (.func 38) #[] #[])), (62, I q.size)] ?_ rfl ?_
        · as_aux_lemma => kernel_rfl
        refine OPC (CALL 38 #[vi q.size] (some 63) ?_ [] [] _ rfl (RV (.bool (usedB q.size))) (fun w hw => iReqOk1_c w q.size) (NO rfl) ?_)
        · as_aux_lemma => kernel_rfl
        rintro ⟨⟩
        refine RUN0 2 [11, 12, 13, 14, 15, 16, 17, 18, 19, 20, 21] [(1, .p 0 0), (65, B (usedB q.size))] ?_ rfl ?_
        · as_aux_lemma => kernel_rfl
        refine SPLIT (d := 65) (usedB q.size) ?_ (fun bh19 => ?_) (fun bh19 => ?_)
        · as_aux_lemma => kernel_rfl
        ·
         have h19 := bh19
         refine RUN0 8 [19, 20, 21] [(65, B true), (66, .v (.agg #[vi q.kind, vi q.id, vi q.cabin, vi q.from', vi q.size, vi q.tier])), (73, .v (.agg #[vi q.kind, vi 0, vi q.cabin, vi 0, vi q.size, vi 0]))] ?_ rfl ?_
         · as_aux_lemma => kernel_rfl
         refine OPC (RUNV (.binOp .eql 30 (.tmp 66) (.tmp 73) 30) 74 4 ?_ (NL rfl) (.bool ((q.kind == q.kind) && ((q.id == 0) && ((q.cabin == q.cabin) && ((q.from' == 0) && ((q.size == q.size) && ((q.tier == 0) && true))))))) (runs_eql (xs := [vi q.kind, vi q.id, vi q.cabin, vi q.from', vi q.size, vi q.tier]) (ys := [vi q.kind, vi 0, vi q.cabin, vi 0, vi q.size, vi 0]) (r := (q.kind == q.kind) && ((q.id == 0) && ((q.cabin == q.cabin) && ((q.from' == 0) && ((q.size == q.size) && ((q.tier == 0) && true)))))) ?_ ?_ ?_) ?_)
         iterate 4 (as_aux_lemma => kernel_rfl)
         refine RUN0 2 [] [(2, B ((q.kind == q.kind) && ((q.id == 0) && ((q.cabin == q.cabin) && ((q.from' == 0) && ((q.size == q.size) && ((q.tier == 0) && true)))))))] ?_ rfl ?_
         · as_aux_lemma => kernel_rfl
         refine ENDOPS (NEXT (RET (OUTR (PASS trivial (FIN (.bool ((q.kind == q.kind) && ((q.id == 0) && ((q.cabin == q.cabin) && ((q.from' == 0) && ((q.size == q.size) && ((q.tier == 0) && true))))))) ?_ () ?_ [] ?_)))))
         · as_aux_lemma => kernel_rfl
         · simp [RV, reqOk, reqEq, *]
         · rfl
        ·
         have h19 := bh19
         refine RUN0 11 [] [(2, B false)] ?_ rfl ?_
         · as_aux_lemma => kernel_rfl
         refine ENDOPS (NEXT (RET (OUTR (PASS trivial (FIN (.bool false) ?_ () ?_ [] ?_)))))
         · as_aux_lemma => kernel_rfl
         · simp [RV, reqOk, reqEq, *]
         · rfl
       ·
        have h18 := bh18
        refine RUN0 17 [] [(2, B false)] ?_ rfl ?_
        · as_aux_lemma => kernel_rfl
        refine ENDOPS (NEXT (RET (OUTR (PASS trivial (FIN (.bool false) ?_ () ?_ [] ?_)))))
        · as_aux_lemma => kernel_rfl
        · simp [RV, reqOk, reqEq, *]
        · rfl
      ·
       have h17 := bh17
       have h17 := ne_of_beq_false h17
       refine SEQ (REGION [0, 1] rfl (RUN0 2 [] [(1, .p 0 0), (76, B (q.kind == 6))] ?_ rfl ?_))
       · as_aux_lemma => kernel_rfl
       refine ENDOPS (NEXT (IF (q.kind == 6) ?_ (fun bh20 => ?_) (fun bh20 => ?_)))
       · as_aux_lemma => kernel_rfl
       ·
        have h20 := bh20
        have h20 := eq_of_beq h20
        refine SEQ (REGION [0, 1, 2, 3] rfl (RUN0 2 [2, 3] [(78, .v (.agg #[vi q.kind, vi q.id, vi q.cabin, vi q.from', vi q.size, vi q.tier])), (79, .v (.agg #[vi 6, vi 0, vi 0, vi 0, vi 0, vi 0]))] ?_ rfl ?_))
        · as_aux_lemma => kernel_rfl
        refine OPC (RUNV (.binOp .eql 30 (.tmp 78) (.tmp 79) 30) 80 4 ?_ (NL rfl) (.bool ((q.kind == 6) && ((q.id == 0) && ((q.cabin == 0) && ((q.from' == 0) && ((q.size == 0) && ((q.tier == 0) && true))))))) (runs_eql (xs := [vi q.kind, vi q.id, vi q.cabin, vi q.from', vi q.size, vi q.tier]) (ys := [vi 6, vi 0, vi 0, vi 0, vi 0, vi 0]) (r := (q.kind == 6) && ((q.id == 0) && ((q.cabin == 0) && ((q.from' == 0) && ((q.size == 0) && ((q.tier == 0) && true)))))) ?_ ?_ ?_) ?_)
        iterate 4 (as_aux_lemma => kernel_rfl)
        refine RUN0 1 [] [(2, B ((q.kind == 6) && ((q.id == 0) && ((q.cabin == 0) && ((q.from' == 0) && ((q.size == 0) && ((q.tier == 0) && true)))))))] ?_ rfl ?_
        · as_aux_lemma => kernel_rfl
        refine ENDOPS (NEXT (RET (OUTR (PASS trivial (FIN (.bool ((q.kind == 6) && ((q.id == 0) && ((q.cabin == 0) && ((q.from' == 0) && ((q.size == 0) && ((q.tier == 0) && true))))))) ?_ () ?_ [] ?_)))))
        · as_aux_lemma => kernel_rfl
        · simp [RV, reqOk, reqEq, *]
        · rfl
       ·
        have h20 := bh20
        have h20 := ne_of_beq_false h20
        refine SKIP (OUTN (NEXT (SEQ (REGION [0] rfl (RUN0 1 [] [(2, B false)] ?_ rfl ?_)))))
        · as_aux_lemma => kernel_rfl
        refine ENDOPS (NEXT (RET (FIN (.bool false) ?_ () ?_ [] ?_)))
        · as_aux_lemma => kernel_rfl
        · simp [RV, reqOk, reqEq, *]
        · rfl

theorem l12Field_c (W : World) (x : Int) : Spec Tryz.prog W [] 59 #[vi x] (RV (.bool (usedB x))) := by
 refine ENTER0 (N := 5) (vs := [vi x]) Tryz.func59 rfl rfl (NL rfl) ?_
 refine SEQ (REGION [0] rfl (RUN0 1 [] [(0, I x)] ?_ rfl ?_))
 · as_aux_lemma => kernel_rfl
 refine ENDOPS (NEXT (SEQ (REGION [0, 1, 2] rfl (RUN0 1 [1, 2] [(3, I x)] ?_ rfl ?_))))
 · as_aux_lemma => kernel_rfl
 refine OPC (CALL 60 #[vi x, vi 0, vi 9999] (some 4) ?_ [] [] _ rfl (RV (.bool (inB x 0 9999))) (fun w hw => l1In_c w x 0 9999) (NO rfl) ?_)
 · as_aux_lemma => kernel_rfl
 rintro ⟨⟩
 refine RUN0 1 [] [(2, B (inB x 0 9999))] ?_ rfl ?_
 · as_aux_lemma => kernel_rfl
 refine ENDOPS (NEXT (RET (FIN (.bool (inB x 0 9999)) ?_ () ?_ [] ?_)))
 · as_aux_lemma => kernel_rfl
 · simp [RV, usedB]
 · rfl

theorem sReqOk_c (W : World) (q : Req) : Spec Tryz.prog W [] 35 #[.agg #[vi q.kind, vi q.id, vi q.cabin, vi q.from', vi q.size, vi q.tier]] (RV (.bool (reqOk q))) := by
 refine ENTER0 (N := 75) (vs := [.agg #[vi q.kind, vi q.id, vi q.cabin, vi q.from', vi q.size, vi q.tier]]) Tryz.func35 rfl rfl (NL rfl) ?_
 refine SEQ (REGION [0, 1] rfl (RUN 2 [] [(1, .p 0 0)] [(30, [vi q.kind, vi q.id, vi q.cabin, vi q.from', vi q.size, vi q.tier])] ?_ rfl ?_))
 · as_aux_lemma => kernel_rfl
 refine ENDOPS (NEXT (SEQ (SEQ (REGION [0, 1] rfl (RUN0 2 [] [(1, .p 0 0), (4, I q.kind)] ?_ rfl ?_)))))
 · as_aux_lemma => kernel_rfl
 refine ENDOPS (NEXT (BLOCK (SEQ (REGION [0, 1] rfl (RUN0 2 [] [(1, .p 0 0), (4, I q.kind), (5, B (q.kind == 1))] ?_ rfl ?_)))))
 · as_aux_lemma => kernel_rfl
 refine ENDOPS (NEXT (IF (q.kind == 1) ?_ (fun bh1 => ?_) (fun bh1 => ?_)))
 · as_aux_lemma => kernel_rfl
 ·
  have h1 := bh1
  have h1 := eq_of_beq h1
  refine SEQ (REGION [0, 1, 2, 3, 4, 5, 6, 7, 8, 9, 10, 11, 12, 13, 14, 15, 16, 17, 18, 19, 20, 21, 22, 23] rfl (RUN0 2 [2, 3, 4, 5, 6, 7, 8, 9, 10, 11, 12, 13, 14, 15, 16, 17, 18, 19, 20, 21, 22, 23] [(1, .p 0 0), (8, I q.id)] ?_ rfl ?_))
  · as_aux_lemma => kernel_rfl
  refine OPC (CALL 59 #[vi q.id] (some 9) ?_ [] [] _ rfl (RV (.bool (usedB q.id))) (fun w hw => l12Field_c w q.id) (NO rfl) ?_)
  · as_aux_lemma => kernel_rfl
  rintro ⟨⟩
  refine RUN0 1 [4, 5, 6, 7, 8, 9, 10, 11, 12, 13, 14, 15, 16, 17, 18, 19, 20, 21, 22, 23] [(1, .p 0 0), (10, B (usedB q.id))] ?_ rfl ?_
  · as_aux_lemma => kernel_rfl
  refine SPLIT (d := 10) (usedB q.id) ?_ (fun bh2 => ?_) (fun bh2 => ?_)
  · as_aux_lemma => kernel_rfl
  ·
   have h2 := bh2
   refine RUN0 2 [6, 7, 8, 9, 10, 11, 12, 13, 14, 15, 16, 17, 18, 19, 20, 21, 22, 23] [(1, .p 0 0), (10, B true), (12, I q.cabin)] ?_ rfl ?_
   · as_aux_lemma => kernel_rfl
   refine OPC (CALL 59 #[vi q.cabin] (some 13) ?_ [] [] _ rfl (RV (.bool (usedB q.cabin))) (fun w hw => l12Field_c w q.cabin) (NO rfl) ?_)
   · as_aux_lemma => kernel_rfl
   rintro ⟨⟩
   refine RUN0 2 [9, 10, 11, 12, 13, 14, 15, 16, 17, 18, 19, 20, 21, 22, 23] [(1, .p 0 0), (15, B (usedB q.cabin))] ?_ rfl ?_
   · as_aux_lemma => kernel_rfl
   refine SPLIT (d := 15) (usedB q.cabin) ?_ (fun bh3 => ?_) (fun bh3 => ?_)
   · as_aux_lemma => kernel_rfl
   ·
    have h3 := bh3
    refine RUN0 2 [11, 12, 13, 14, 15, 16, 17, 18, 19, 20, 21, 22, 23] [(1, .p 0 0), (15, B true), (17, I q.from')] ?_ rfl ?_
    · as_aux_lemma => kernel_rfl
    refine OPC (CALL 60 #[vi q.from', vi (-1), vi 9999] (some 18) ?_ [] [] _ rfl (RV (.bool (inB q.from' (-1) 9999))) (fun w hw => l1In_c w q.from' (-1) 9999) (NO rfl) ?_)
    · as_aux_lemma => kernel_rfl
    rintro ⟨⟩
    refine RUN0 2 [14, 15, 16, 17, 18, 19, 20, 21, 22, 23] [(1, .p 0 0), (20, B (inB q.from' (-1) 9999))] ?_ rfl ?_
    · as_aux_lemma => kernel_rfl
    refine SPLIT (d := 20) (inB q.from' (-1) 9999) ?_ (fun bh4 => ?_) (fun bh4 => ?_)
    · as_aux_lemma => kernel_rfl
    ·
     have h4 := bh4
     refine RUN0 2 [16, 17, 18, 19, 20, 21, 22, 23] [(1, .p 0 0), (20, B true), (22, I q.size)] ?_ rfl ?_
     · as_aux_lemma => kernel_rfl
     refine OPC (CALL 59 #[vi q.size] (some 23) ?_ [] [] _ rfl (RV (.bool (usedB q.size))) (fun w hw => l12Field_c w q.size) (NO rfl) ?_)
     · as_aux_lemma => kernel_rfl
     rintro ⟨⟩
     refine RUN0 2 [19, 20, 21, 22, 23] [(1, .p 0 0), (25, B (usedB q.size))] ?_ rfl ?_
     · as_aux_lemma => kernel_rfl
     refine SPLIT (d := 25) (usedB q.size) ?_ (fun bh5 => ?_) (fun bh5 => ?_)
     · as_aux_lemma => kernel_rfl
     ·
      have h5 := bh5
      refine RUN0 2 [21, 22, 23] [(25, B true), (27, I q.tier)] ?_ rfl ?_
      · as_aux_lemma => kernel_rfl
      refine OPC (CALL 59 #[vi q.tier] (some 28) ?_ [] [] _ rfl (RV (.bool (usedB q.tier))) (fun w hw => l12Field_c w q.tier) (NO rfl) ?_)
      · as_aux_lemma => kernel_rfl
      rintro ⟨⟩
      refine RUN0 2 [] [(2, B (usedB q.tier))] ?_ rfl ?_
      · as_aux_lemma => kernel_rfl
      refine ENDOPS (NEXT (RET (OUTR (PASS trivial (FIN (.bool (usedB q.tier)) ?_ () ?_ [] ?_)))))
      · as_aux_lemma => kernel_rfl
      · simp [RV, reqOk, reqEq, *]
      · rfl
     ·
      have h5 := bh5
      refine RUN0 5 [] [(2, B false)] ?_ rfl ?_
      · as_aux_lemma => kernel_rfl
      refine ENDOPS (NEXT (RET (OUTR (PASS trivial (FIN (.bool false) ?_ () ?_ [] ?_)))))
      · as_aux_lemma => kernel_rfl
      · simp [RV, reqOk, reqEq, *]
      · rfl
    ·
     have h4 := bh4
     refine RUN0 10 [] [(2, B false)] ?_ rfl ?_
     · as_aux_lemma => kernel_rfl
     refine ENDOPS (NEXT (RET (OUTR (PASS trivial (FIN (.bool false) ?_ () ?_ [] ?_)))))
     · as_aux_lemma => kernel_rfl
     · simp [RV, reqOk, reqEq, *]
     · rfl
   ·
    have h3 := bh3
    refine RUN0 15 [] [(2, B false)] ?_ rfl ?_
    · as_aux_lemma => kernel_rfl
    refine ENDOPS (NEXT (RET (OUTR (PASS trivial (FIN (.bool false) ?_ () ?_ [] ?_)))))
    · as_aux_lemma => kernel_rfl
    · simp [RV, reqOk, reqEq, *]
    · rfl
  ·
   have h2 := bh2
   refine RUN0 20 [] [(2, B false)] ?_ rfl ?_
   · as_aux_lemma => kernel_rfl
   refine ENDOPS (NEXT (RET (OUTR (PASS trivial (FIN (.bool false) ?_ () ?_ [] ?_)))))
   · as_aux_lemma => kernel_rfl
   · simp [RV, reqOk, reqEq, *]
   · rfl
 ·
  have h1 := bh1
  have h1 := ne_of_beq_false h1
  refine SEQ (SEQ (REGION [0, 1] rfl (RUN0 2 [] [(1, .p 0 0), (4, I q.kind), (30, B (q.kind == 2))] ?_ rfl ?_)))
  · as_aux_lemma => kernel_rfl
  refine ENDOPS (NEXT (IF (q.kind == 2) ?_ (fun bh6 => ?_) (fun bh6 => ?_)))
  · as_aux_lemma => kernel_rfl
  ·
   have h6 := bh6
   have h6 := eq_of_beq h6
   refine SKIP (NEXT (IF (q.kind == 2) ?_ (fun bh7 => ?_) (fun bh7 => ?_)))
   · as_aux_lemma => kernel_rfl
   ·
    have h7 := bh7
    have h7 := eq_of_beq h7
    refine SEQ (REGION [0, 1, 2, 3, 4, 5, 6, 7, 8, 9, 10, 11, 12] rfl (RUN0 2 [2, 3, 4, 5, 6, 7, 8, 9, 10, 11, 12] [(1, .p 0 0), (36, I q.id)] ?_ rfl ?_))
    · as_aux_lemma => kernel_rfl
    refine OPC (CALL 59 #[vi q.id] (some 37) ?_ [] [] _ rfl (RV (.bool (usedB q.id))) (fun w hw => l12Field_c w q.id) (NO rfl) ?_)
    · as_aux_lemma => kernel_rfl
    rintro ⟨⟩
    refine RUN0 1 [4, 5, 6, 7, 8, 9, 10, 11, 12] [(1, .p 0 0), (38, B (usedB q.id))] ?_ rfl ?_
    · as_aux_lemma => kernel_rfl
    refine SPLIT (d := 38) (usedB q.id) ?_ (fun bh8 => ?_) (fun bh8 => ?_)
    · as_aux_lemma => kernel_rfl
    ·
     have h8 := bh8
     refine RUN0 6 [10, 11, 12] [(38, B true), (39, .v (.agg #[vi q.kind, vi q.id, vi q.cabin, vi q.from', vi q.size, vi q.tier])), (44, .v (.agg #[vi q.kind, vi q.id, vi 0, vi 0, vi 0, vi 0]))] ?_ rfl ?_
     · as_aux_lemma => kernel_rfl
     refine OPC (RUNV (.binOp .eql 30 (.tmp 39) (.tmp 44) 30) 45 4 ?_ (NL rfl) (.bool ((q.kind == q.kind) && ((q.id == q.id) && ((q.cabin == 0) && ((q.from' == 0) && ((q.size == 0) && ((q.tier == 0) && true))))))) (runs_eql (xs := [vi q.kind, vi q.id, vi q.cabin, vi q.from', vi q.size, vi q.tier]) (ys := [vi q.kind, vi q.id, vi 0, vi 0, vi 0, vi 0]) (r := (q.kind == q.kind) && ((q.id == q.id) && ((q.cabin == 0) && ((q.from' == 0) && ((q.size == 0) && ((q.tier == 0) && true)))))) ?_ ?_ ?_) ?_)
     iterate 4 (as_aux_lemma => kernel_rfl)
     refine RUN0 2 [] [(2, B ((q.kind == q.kind) && ((q.id == q.id) && ((q.cabin == 0) && ((q.from' == 0) && ((q.size == 0) && ((q.tier == 0) && true)))))))] ?_ rfl ?_
     · as_aux_lemma => kernel_rfl
     refine ENDOPS (NEXT (RET (OUTR (PASS trivial (FIN (.bool ((q.kind == q.kind) && ((q.id == q.id) && ((q.cabin == 0) && ((q.from' == 0) && ((q.size == 0) && ((q.tier == 0) && true))))))) ?_ () ?_ [] ?_)))))
     · as_aux_lemma => kernel_rfl
     · simp [RV, reqOk, reqEq, *]
     · rfl
    ·
     have h8 := bh8
     refine RUN0 9 [] [(2, B false)] ?_ rfl ?_
     · as_aux_lemma => kernel_rfl
     refine ENDOPS (NEXT (RET (OUTR (PASS trivial (FIN (.bool false) ?_ () ?_ [] ?_)))))
     · as_aux_lemma => kernel_rfl
     · simp [RV, reqOk, reqEq, *]
     · rfl
   · exact Bool.noConfusion (bh6.symm.trans bh7)
  ·
   have h6 := bh6
   have h6 := ne_of_beq_false h6
   refine SEQ (REGION [0, 1] rfl (RUN0 2 [] [(1, .p 0 0), (4, I q.kind), (30, B (q.kind == 4))] ?_ rfl ?_))
   · as_aux_lemma => kernel_rfl
   refine ENDOPS (NEXT (IF (q.kind == 4) ?_ (fun bh9 => ?_) (fun bh9 => ?_)))
   · as_aux_lemma => kernel_rfl
   ·
    have h9 := bh9
    have h9 := eq_of_beq h9
    refine SKIP (NEXT (IF (q.kind == 4) ?_ (fun bh10 => ?_) (fun bh10 => ?_)))
    · as_aux_lemma => kernel_rfl
    ·
     have h10 := bh10
     have h10 := eq_of_beq h10
     refine SEQ (REGION [0, 1, 2, 3, 4, 5, 6, 7, 8, 9, 10, 11, 12] rfl (RUN0 2 [2, 3, 4, 5, 6, 7, 8, 9, 10, 11, 12] [(1, .p 0 0), (36, I q.id)] ?_ rfl ?_))
     · as_aux_lemma => kernel_rfl
     refine OPC (CALL 59 #[vi q.id] (some 37) ?_ [] [] _ rfl (RV (.bool (usedB q.id))) (fun w hw => l12Field_c w q.id) (NO rfl) ?_)
     · as_aux_lemma => kernel_rfl
     rintro ⟨⟩
     refine RUN0 1 [4, 5, 6, 7, 8, 9, 10, 11, 12] [(1, .p 0 0), (38, B (usedB q.id))] ?_ rfl ?_
     · as_aux_lemma => kernel_rfl
     refine SPLIT (d := 38) (usedB q.id) ?_ (fun bh11 => ?_) (fun bh11 => ?_)
     · as_aux_lemma => kernel_rfl
     ·
      have h11 := bh11
      refine RUN0 6 [10, 11, 12] [(38, B true), (39, .v (.agg #[vi q.kind, vi q.id, vi q.cabin, vi q.from', vi q.size, vi q.tier])), (44, .v (.agg #[vi q.kind, vi q.id, vi 0, vi 0, vi 0, vi 0]))] ?_ rfl ?_
      · as_aux_lemma => kernel_rfl
      refine OPC (RUNV (.binOp .eql 30 (.tmp 39) (.tmp 44) 30) 45 4 ?_ (NL rfl) (.bool ((q.kind == q.kind) && ((q.id == q.id) && ((q.cabin == 0) && ((q.from' == 0) && ((q.size == 0) && ((q.tier == 0) && true))))))) (runs_eql (xs := [vi q.kind, vi q.id, vi q.cabin, vi q.from', vi q.size, vi q.tier]) (ys := [vi q.kind, vi q.id, vi 0, vi 0, vi 0, vi 0]) (r := (q.kind == q.kind) && ((q.id == q.id) && ((q.cabin == 0) && ((q.from' == 0) && ((q.size == 0) && ((q.tier == 0) && true)))))) ?_ ?_ ?_) ?_)
      iterate 4 (as_aux_lemma => kernel_rfl)
      refine RUN0 2 [] [(2, B ((q.kind == q.kind) && ((q.id == q.id) && ((q.cabin == 0) && ((q.from' == 0) && ((q.size == 0) && ((q.tier == 0) && true)))))))] ?_ rfl ?_
      · as_aux_lemma => kernel_rfl
      refine ENDOPS (NEXT (RET (OUTR (PASS trivial (FIN (.bool ((q.kind == q.kind) && ((q.id == q.id) && ((q.cabin == 0) && ((q.from' == 0) && ((q.size == 0) && ((q.tier == 0) && true))))))) ?_ () ?_ [] ?_)))))
      · as_aux_lemma => kernel_rfl
      · simp [RV, reqOk, reqEq, *]
      · rfl
     ·
      have h11 := bh11
      refine RUN0 9 [] [(2, B false)] ?_ rfl ?_
      · as_aux_lemma => kernel_rfl
      refine ENDOPS (NEXT (RET (OUTR (PASS trivial (FIN (.bool false) ?_ () ?_ [] ?_)))))
      · as_aux_lemma => kernel_rfl
      · simp [RV, reqOk, reqEq, *]
      · rfl
    · exact Bool.noConfusion (bh9.symm.trans bh10)
   ·
    have h9 := bh9
    have h9 := ne_of_beq_false h9
    refine SEQ (REGION [0, 1] rfl (RUN0 2 [] [(1, .p 0 0), (4, I q.kind), (30, B (q.kind == 5))] ?_ rfl ?_))
    · as_aux_lemma => kernel_rfl
    refine ENDOPS (NEXT (IF (q.kind == 5) ?_ (fun bh12 => ?_) (fun bh12 => ?_)))
    · as_aux_lemma => kernel_rfl
    ·
     have h12 := bh12
     have h12 := eq_of_beq h12
     refine SKIP (NEXT (IF (q.kind == 5) ?_ (fun bh13 => ?_) (fun bh13 => ?_)))
     · as_aux_lemma => kernel_rfl
     ·
      have h13 := bh13
      have h13 := eq_of_beq h13
      refine SEQ (REGION [0, 1, 2, 3, 4, 5, 6, 7, 8, 9, 10, 11, 12] rfl (RUN0 2 [2, 3, 4, 5, 6, 7, 8, 9, 10, 11, 12] [(1, .p 0 0), (36, I q.id)] ?_ rfl ?_))
      · as_aux_lemma => kernel_rfl
      refine OPC (CALL 59 #[vi q.id] (some 37) ?_ [] [] _ rfl (RV (.bool (usedB q.id))) (fun w hw => l12Field_c w q.id) (NO rfl) ?_)
      · as_aux_lemma => kernel_rfl
      rintro ⟨⟩
      refine RUN0 1 [4, 5, 6, 7, 8, 9, 10, 11, 12] [(1, .p 0 0), (38, B (usedB q.id))] ?_ rfl ?_
      · as_aux_lemma => kernel_rfl
      refine SPLIT (d := 38) (usedB q.id) ?_ (fun bh14 => ?_) (fun bh14 => ?_)
      · as_aux_lemma => kernel_rfl
      ·
       have h14 := bh14
       refine RUN0 6 [10, 11, 12] [(38, B true), (39, .v (.agg #[vi q.kind, vi q.id, vi q.cabin, vi q.from', vi q.size, vi q.tier])), (44, .v (.agg #[vi q.kind, vi q.id, vi 0, vi 0, vi 0, vi 0]))] ?_ rfl ?_
       · as_aux_lemma => kernel_rfl
       refine OPC (RUNV (.binOp .eql 30 (.tmp 39) (.tmp 44) 30) 45 4 ?_ (NL rfl) (.bool ((q.kind == q.kind) && ((q.id == q.id) && ((q.cabin == 0) && ((q.from' == 0) && ((q.size == 0) && ((q.tier == 0) && true))))))) (runs_eql (xs := [vi q.kind, vi q.id, vi q.cabin, vi q.from', vi q.size, vi q.tier]) (ys := [vi q.kind, vi q.id, vi 0, vi 0, vi 0, vi 0]) (r := (q.kind == q.kind) && ((q.id == q.id) && ((q.cabin == 0) && ((q.from' == 0) && ((q.size == 0) && ((q.tier == 0) && true)))))) ?_ ?_ ?_) ?_)
       iterate 4 (as_aux_lemma => kernel_rfl)
       refine RUN0 2 [] [(2, B ((q.kind == q.kind) && ((q.id == q.id) && ((q.cabin == 0) && ((q.from' == 0) && ((q.size == 0) && ((q.tier == 0) && true)))))))] ?_ rfl ?_
       · as_aux_lemma => kernel_rfl
       refine ENDOPS (NEXT (RET (OUTR (PASS trivial (FIN (.bool ((q.kind == q.kind) && ((q.id == q.id) && ((q.cabin == 0) && ((q.from' == 0) && ((q.size == 0) && ((q.tier == 0) && true))))))) ?_ () ?_ [] ?_)))))
       · as_aux_lemma => kernel_rfl
       · simp [RV, reqOk, reqEq, *]
       · rfl
      ·
       have h14 := bh14
       refine RUN0 9 [] [(2, B false)] ?_ rfl ?_
       · as_aux_lemma => kernel_rfl
       refine ENDOPS (NEXT (RET (OUTR (PASS trivial (FIN (.bool false) ?_ () ?_ [] ?_)))))
       · as_aux_lemma => kernel_rfl
       · simp [RV, reqOk, reqEq, *]
       · rfl
     · exact Bool.noConfusion (bh12.symm.trans bh13)
    ·
     have h12 := bh12
     have h12 := ne_of_beq_false h12
     refine REGION [0, 1] rfl (RUN0 2 [] [(1, .p 0 0), (4, I q.kind), (30, B (q.kind == 7))] ?_ rfl ?_)
     · as_aux_lemma => kernel_rfl
     refine ENDOPS (NEXT (IF (q.kind == 7) ?_ (fun bh15 => ?_) (fun bh15 => ?_)))
     · as_aux_lemma => kernel_rfl
     ·
      have h15 := bh15
      have h15 := eq_of_beq h15
      refine SEQ (REGION [0, 1, 2, 3, 4, 5, 6, 7, 8, 9, 10, 11, 12] rfl (RUN0 2 [2, 3, 4, 5, 6, 7, 8, 9, 10, 11, 12] [(1, .p 0 0), (36, I q.id)] ?_ rfl ?_))
      · as_aux_lemma => kernel_rfl
      refine OPC (CALL 59 #[vi q.id] (some 37) ?_ [] [] _ rfl (RV (.bool (usedB q.id))) (fun w hw => l12Field_c w q.id) (NO rfl) ?_)
      · as_aux_lemma => kernel_rfl
      rintro ⟨⟩
      refine RUN0 1 [4, 5, 6, 7, 8, 9, 10, 11, 12] [(1, .p 0 0), (38, B (usedB q.id))] ?_ rfl ?_
      · as_aux_lemma => kernel_rfl
      refine SPLIT (d := 38) (usedB q.id) ?_ (fun bh16 => ?_) (fun bh16 => ?_)
      · as_aux_lemma => kernel_rfl
      ·
       have h16 := bh16
       refine RUN0 6 [10, 11, 12] [(38, B true), (39, .v (.agg #[vi q.kind, vi q.id, vi q.cabin, vi q.from', vi q.size, vi q.tier])), (44, .v (.agg #[vi q.kind, vi q.id, vi 0, vi 0, vi 0, vi 0]))] ?_ rfl ?_
       · as_aux_lemma => kernel_rfl
       refine OPC (RUNV (.binOp .eql 30 (.tmp 39) (.tmp 44) 30) 45 4 ?_ (NL rfl) (.bool ((q.kind == q.kind) && ((q.id == q.id) && ((q.cabin == 0) && ((q.from' == 0) && ((q.size == 0) && ((q.tier == 0) && true))))))) (runs_eql (xs := [vi q.kind, vi q.id, vi q.cabin, vi q.from', vi q.size, vi q.tier]) (ys := [vi q.kind, vi q.id, vi 0, vi 0, vi 0, vi 0]) (r := (q.kind == q.kind) && ((q.id == q.id) && ((q.cabin == 0) && ((q.from' == 0) && ((q.size == 0) && ((q.tier == 0) && true)))))) ?_ ?_ ?_) ?_)
       iterate 4 (as_aux_lemma => kernel_rfl)
       refine RUN0 2 [] [(2, B ((q.kind == q.kind) && ((q.id == q.id) && ((q.cabin == 0) && ((q.from' == 0) && ((q.size == 0) && ((q.tier == 0) && true)))))))] ?_ rfl ?_
       · as_aux_lemma => kernel_rfl
       refine ENDOPS (NEXT (RET (OUTR (PASS trivial (FIN (.bool ((q.kind == q.kind) && ((q.id == q.id) && ((q.cabin == 0) && ((q.from' == 0) && ((q.size == 0) && ((q.tier == 0) && true))))))) ?_ () ?_ [] ?_)))))
       · as_aux_lemma => kernel_rfl
       · simp [RV, reqOk, reqEq, *]
       · rfl
      ·
       have h16 := bh16
       refine RUN0 9 [] [(2, B false)] ?_ rfl ?_
       · as_aux_lemma => kernel_rfl
       refine ENDOPS (NEXT (RET (OUTR (PASS trivial (FIN (.bool false) ?_ () ?_ [] ?_)))))
       · as_aux_lemma => kernel_rfl
       · simp [RV, reqOk, reqEq, *]
       · rfl
     ·
      have h15 := bh15
      have h15 := ne_of_beq_false h15
      refine SEQ (REGION [0, 1] rfl (RUN0 2 [] [(1, .p 0 0), (4, I q.kind), (47, B (q.kind == 3))] ?_ rfl ?_))
      · as_aux_lemma => kernel_rfl
      refine ENDOPS (NEXT (IF (q.kind == 3) ?_ (fun bh17 => ?_) (fun bh17 => ?_)))
      · as_aux_lemma => kernel_rfl
      ·
       have h17 := bh17
       have h17 := eq_of_beq h17
       refine SEQ (REGION [0, 1, 2, 3, 4, 5, 6, 7, 8, 9, 10, 11, 12, 13, 14, 15, 16, 17, 18, 19] rfl (RUN0 2 [2, 3, 4, 5, 6, 7, 8, 9, 10, 11, 12, 13, 14, 15, 16, 17, 18, 19] [(1, .p 0 0), (50, I q.cabin)] ?_ rfl ?_))
       · as_aux_lemma => kernel_rfl
       refine OPC (CALL 59 #[vi q.cabin] (some 51) ?_ [] [] _ rfl (RV (.bool (usedB q.cabin))) (fun w hw => l12Field_c w q.cabin) (NO rfl) ?_)
       · as_aux_lemma => kernel_rfl
       rintro ⟨⟩
       refine RUN0 1 [4, 5, 6, 7, 8, 9, 10, 11, 12, 13, 14, 15, 16, 17, 18, 19] [(1, .p 0 0), (52, B (usedB q.cabin))] ?_ rfl ?_
       · as_aux_lemma => kernel_rfl
       refine SPLIT (d := 52) (usedB q.cabin) ?_ (fun bh18 => ?_) (fun bh18 => ?_)
       · as_aux_lemma => kernel_rfl
       ·
        have h18 := bh18
        refine RUN0 2 [6, 7, 8, 9, 10, 11, 12, 13, 14, 15, 16, 17, 18, 19] [(1, .p 0 0), (52, B true), (54, I q.size)] ?_ rfl ?_
        · as_aux_lemma => kernel_rfl
        refine OPC (CALL 59 #[vi q.size] (some 55) ?_ [] [] _ rfl (RV (.bool (usedB q.size))) (fun w hw => l12Field_c w q.size) (NO rfl) ?_)
        · as_aux_lemma => kernel_rfl
        rintro ⟨⟩
        refine RUN0 2 [9, 10, 11, 12, 13, 14, 15, 16, 17, 18, 19] [(1, .p 0 0), (57, B (usedB q.size))] ?_ rfl ?_
        · as_aux_lemma => kernel_rfl
        refine SPLIT (d := 57) (usedB q.size) ?_ (fun bh19 => ?_) (fun bh19 => ?_)
        · as_aux_lemma => kernel_rfl
        ·
         have h19 := bh19
         refine RUN0 8 [17, 18, 19] [(57, B true), (58, .v (.agg #[vi q.kind, vi q.id, vi q.cabin, vi q.from', vi q.size, vi q.tier])), (65, .v (.agg #[vi q.kind, vi 0, vi q.cabin, vi 0, vi q.size, vi 0]))] ?_ rfl ?_
         · as_aux_lemma => kernel_rfl
         refine OPC (RUNV (.binOp .eql 30 (.tmp 58) (.tmp 65) 30) 66 4 ?_ (NL rfl) (.bool ((q.kind == q.kind) && ((q.id == 0) && ((q.cabin == q.cabin) && ((q.from' == 0) && ((q.size == q.size) && ((q.tier == 0) && true))))))) (runs_eql (xs := [vi q.kind, vi q.id, vi q.cabin, vi q.from', vi q.size, vi q.tier]) (ys := [vi q.kind, vi 0, vi q.cabin, vi 0, vi q.size, vi 0]) (r := (q.kind == q.kind) && ((q.id == 0) && ((q.cabin == q.cabin) && ((q.from' == 0) && ((q.size == q.size) && ((q.tier == 0) && true)))))) ?_ ?_ ?_) ?_)
         iterate 4 (as_aux_lemma => kernel_rfl)
         refine RUN0 2 [] [(2, B ((q.kind == q.kind) && ((q.id == 0) && ((q.cabin == q.cabin) && ((q.from' == 0) && ((q.size == q.size) && ((q.tier == 0) && true)))))))] ?_ rfl ?_
         · as_aux_lemma => kernel_rfl
         refine ENDOPS (NEXT (RET (OUTR (PASS trivial (FIN (.bool ((q.kind == q.kind) && ((q.id == 0) && ((q.cabin == q.cabin) && ((q.from' == 0) && ((q.size == q.size) && ((q.tier == 0) && true))))))) ?_ () ?_ [] ?_)))))
         · as_aux_lemma => kernel_rfl
         · simp [RV, reqOk, reqEq, *]
         · rfl
        ·
         have h19 := bh19
         refine RUN0 11 [] [(2, B false)] ?_ rfl ?_
         · as_aux_lemma => kernel_rfl
         refine ENDOPS (NEXT (RET (OUTR (PASS trivial (FIN (.bool false) ?_ () ?_ [] ?_)))))
         · as_aux_lemma => kernel_rfl
         · simp [RV, reqOk, reqEq, *]
         · rfl
       ·
        have h18 := bh18
        refine RUN0 16 [] [(2, B false)] ?_ rfl ?_
        · as_aux_lemma => kernel_rfl
        refine ENDOPS (NEXT (RET (OUTR (PASS trivial (FIN (.bool false) ?_ () ?_ [] ?_)))))
        · as_aux_lemma => kernel_rfl
        · simp [RV, reqOk, reqEq, *]
        · rfl
      ·
       have h17 := bh17
       have h17 := ne_of_beq_false h17
       refine SEQ (REGION [0, 1] rfl (RUN0 2 [] [(1, .p 0 0), (68, B (q.kind == 6))] ?_ rfl ?_))
       · as_aux_lemma => kernel_rfl
       refine ENDOPS (NEXT (IF (q.kind == 6) ?_ (fun bh20 => ?_) (fun bh20 => ?_)))
       · as_aux_lemma => kernel_rfl
       ·
        have h20 := bh20
        have h20 := eq_of_beq h20
        refine SEQ (REGION [0, 1, 2, 3, 4, 5] rfl (RUN0 4 [4, 5] [(70, .v (.agg #[vi q.kind, vi q.id, vi q.cabin, vi q.from', vi q.size, vi q.tier])), (73, .v (.agg #[vi q.kind, vi 0, vi 0, vi 0, vi 0, vi 0]))] ?_ rfl ?_))
        · as_aux_lemma => kernel_rfl
        refine OPC (RUNV (.binOp .eql 30 (.tmp 70) (.tmp 73) 30) 74 4 ?_ (NL rfl) (.bool ((q.kind == q.kind) && ((q.id == 0) && ((q.cabin == 0) && ((q.from' == 0) && ((q.size == 0) && ((q.tier == 0) && true))))))) (runs_eql (xs := [vi q.kind, vi q.id, vi q.cabin, vi q.from', vi q.size, vi q.tier]) (ys := [vi q.kind, vi 0, vi 0, vi 0, vi 0, vi 0]) (r := (q.kind == q.kind) && ((q.id == 0) && ((q.cabin == 0) && ((q.from' == 0) && ((q.size == 0) && ((q.tier == 0) && true)))))) ?_ ?_ ?_) ?_)
        iterate 4 (as_aux_lemma => kernel_rfl)
        refine RUN0 1 [] [(2, B ((q.kind == q.kind) && ((q.id == 0) && ((q.cabin == 0) && ((q.from' == 0) && ((q.size == 0) && ((q.tier == 0) && true)))))))] ?_ rfl ?_
        · as_aux_lemma => kernel_rfl
        refine ENDOPS (NEXT (RET (OUTR (PASS trivial (FIN (.bool ((q.kind == q.kind) && ((q.id == 0) && ((q.cabin == 0) && ((q.from' == 0) && ((q.size == 0) && ((q.tier == 0) && true))))))) ?_ () ?_ [] ?_)))))
        · as_aux_lemma => kernel_rfl
        · simp [RV, reqOk, reqEq, *]
        · rfl
       ·
        have h20 := bh20
        have h20 := ne_of_beq_false h20
        refine SKIP (OUTN (NEXT (SEQ (REGION [0] rfl (RUN0 1 [] [(2, B false)] ?_ rfl ?_)))))
        · as_aux_lemma => kernel_rfl
        refine ENDOPS (NEXT (RET (FIN (.bool false) ?_ () ?_ [] ?_)))
        · as_aux_lemma => kernel_rfl
        · simp [RV, reqOk, reqEq, *]
        · rfl

theorem l29Word_c (W : World) (kind : Int) (hk : 0 ≤ kind ∧ kind < 8) : Spec Tryz.prog W [] 36 #[vi kind] (RV (.string (bs (reqWord kind)))) := by
 refine ENTER0 (N := 7) (vs := [vi kind]) Tryz.func36 rfl rfl (NL rfl) ?_
 refine SEQ (REGION [0] rfl (RUN0 1 [] [(0, I kind)] ?_ rfl ?_))
 · as_aux_lemma => kernel_rfl
 refine ENDOPS (NEXT (SEQ (REGION [0, 1, 2, 3, 4] rfl (OPC (BUILDS 36 8 #[(0, .const (.string (bs ([])))), (1, .const (.string (bs ([106, 111, 105, 110])))), (2, .const (.string (bs ([99, 97, 110, 99, 101, 108])))), (3, .const (.string (bs ([102, 114, 101, 101])))), (4, .const (.string (bs ([97, 99, 99, 101, 112, 116])))), (5, .const (.string (bs ([100, 101, 99, 108, 105, 110, 101])))), (6, .const (.string (bs ([116, 105, 99, 107])))), (7, .const (.string (bs ([112, 105, 99, 107]))))] 3 36 ?_ (NL rfl) 9 [.string (bs ([])), .string (bs ([106, 111, 105, 110])), .string (bs ([99, 97, 110, 99, 101, 108])), .string (bs ([102, 114, 101, 101])), .string (bs ([97, 99, 99, 101, 112, 116])), .string (bs ([100, 101, 99, 108, 105, 110, 101])), .string (bs ([116, 105, 99, 107])), .string (bs ([112, 105, 99, 107]))] ?_ strL ([[], [106, 111, 105, 110], [99, 97, 110, 99, 101, 108], [102, 114, 101, 101], [97, 99, 99, 101, 112, 116], [100, 101, 99, 108, 105, 110, 101], [116, 105, 99, 107], [112, 105, 99, 107]] : List (List UInt8)) rfl (by simp only [maxLen]; omega) [] [] _ rfl (flatRep rfl) (fun a1 ha2 => ?_))))))
 iterate 2 (as_aux_lemma => kernel_rfl)
 refine RUN0 1 [2, 3, 4] [(3, .v (.slice a1 8 8)), (4, I kind)] ?_ rfl ?_
 · as_aux_lemma => kernel_rfl
 refine FACT (8 = ([[], [106, 111, 105, 110], [99, 97, 110, 99, 101, 108], [102, 114, 101, 101], [97, 99, 99, 101, 112, 116], [100, 101, 99, 108, 105, 110, 101], [116, 105, 99, 107], [112, 105, 99, 107]] : List (List UInt8)).length) (fun w hw => (SlO.lenE (hw.own 0 rfl)).1) (fun hln3 => ?_)
 obtain ⟨x4, hx5⟩ : ∃ y, ([[], [106, 111, 105, 110], [99, 97, 110, 99, 101, 108], [102, 114, 101, 101], [97, 99, 99, 101, 112, 116], [100, 101, 99, 108, 105, 110, 101], [116, 105, 99, 107], [112, 105, 99, 107]] : List (List UInt8))[kind.toNat]? = some y := ⟨_, List.getElem?_eq_getElem (by omega)⟩
 refine OPC (INDEX 36 (.tmp 3) (.tmp 4) 5 0 ?_ (NL rfl) a1 8 8 .i64 kind 9 1 ?_ ?_ ?_ ?_ ha2 (by omega) (by omega) ?_)
 iterate 5 (as_aux_lemma => kernel_rfl)
 refine OPC (LOADE 9 (.tmp 5) 6 9 ?_ (NL rfl) a1 (kind.toNat * 1) 0 [.string (bs x4)] (.string (bs x4)) ?_ (fun w hw => (hw.rdO 0 rfl).flat hx5) ?_ ?_)
 iterate 3 (as_aux_lemma => kernel_rfl)
 refine RUN0 1 [] [(2, .v (.string (bs x4)))] ?_ rfl ?_
 · as_aux_lemma => kernel_rfl
 refine ENDOPS (NEXT (RET (FIN (.string (bs x4)) ?_ () ?_ [] ?_)))
 · as_aux_lemma => kernel_rfl
 · (rw [reqWord_of hx5]; rfl)
 · rfl

theorem sDigits_c (W : World) (n : Int) (hn : i64R n) : Spec Tryz.prog W [] 37 #[vi n] (RV (.string (bs (Lib.itoa n)))) := by
 refine ENTER0 (N := 31) (vs := [vi n]) Tryz.func37 rfl rfl (NL rfl) ?_
 refine SEQ (REGION [0] rfl (RUN0 1 [] [(0, I n)] ?_ rfl ?_))
 · as_aux_lemma => kernel_rfl
 refine ENDOPS (NEXT (SEQ (SEQ (REGION [0, 1] rfl (RUN0 2 [] [(0, I n), (7, B (n == 0))] ?_ rfl ?_)))))
 · as_aux_lemma => kernel_rfl
 refine ENDOPS (NEXT (IF (n == 0) ?_ (fun bh1 => ?_) (fun bh1 => ?_)))
 · as_aux_lemma => kernel_rfl
 ·
  have h1 := bh1
  have h1 := eq_of_beq h1
  refine SEQ (REGION [0] rfl (RUN0 1 [] [(2, .v (.string (bs ([48]))))] ?_ rfl ?_))
  · as_aux_lemma => kernel_rfl
  refine ENDOPS (NEXT (RET (PASS trivial (FIN (.string (bs ([48]))) ?_ () ?_ [] ?_))))
  · as_aux_lemma => kernel_rfl
  · (show Value.string _ = Value.string (bs (Lib.itoa n)); congr 2; first | (subst_vars; exact itoa_zero.symm) | (rw [itoa_of (by assumption), ← hv]; simp_all [ddz]))
  · rfl
 ·
  have h1 := bh1
  have h1 := ne_of_beq_false h1
  refine SKIP (NEXT (SEQ (REGION [0, 1, 2] rfl (RUN0 3 [] [(0, I n), (3, B (decide (n < 0)))] ?_ rfl ?_))))
  · as_aux_lemma => kernel_rfl
  refine ENDOPS (NEXT (SEQ (REGION [0] rfl (RUN0 1 [] [(0, I n), (3, B (decide (n < 0))), (4, .v (.string (bs ([]))))] ?_ rfl ?_))))
  · as_aux_lemma => kernel_rfl
  refine ENDOPS (NEXT (SEQ (BLOCK (LOOP (ι := Int × (List UInt8)) (fun j => [(0, I j.1), (3, B (decide (n < 0))), (4, .v (.string (bs j.2)))]) (fun j => []) (fun j => []) (fun j => i64R j.1 ∧ ddz j.1.natAbs ++ j.2 = ddz n.natAbs) (fun j => j.1.natAbs) (n, []) [0, 3, 4] ⟨hn, by simp⟩ ?_ rfl rfl ?_))))
  · as_aux_lemma => kernel_rfl
  rintro ⟨m, out⟩ ⟨hm, hv⟩
  try dsimp only at hm hv
  have hol : out.length ≤ 20 := by have h1 := congrArg List.length hv; have h2 := dec_len (u := n.natAbs) (by unfold i64R at hn; omega); simp only [List.length_append] at h1; omega
  refine SEQ (SEQ (REGION [0, 1] rfl (RUN0 2 [] [(0, I m), (3, B (decide (n < 0))), (4, .v (.string (bs out))), (11, B (m != 0))] ?_ rfl ?_)))
  · as_aux_lemma => kernel_rfl
  refine ENDOPS (NEXT (IF (m != 0) ?_ (fun bh2 => ?_) (fun bh2 => ?_)))
  · as_aux_lemma => kernel_rfl
  ·
   have h2 := bh2
   have h2 := bne_iff_ne.1 h2
   refine SKIP (NEXT (BLOCK (SEQ (REGION [0, 1, 2] rfl (RUN0 3 [] [(0, I m), (3, B (decide (n < 0))), (4, .v (.string (bs out))), (5, I (Int.tmod m 10))] ?_ rfl ?_)))))
   · as_aux_lemma => kernel_rfl
   refine ENDOPS (NEXT (SEQ (SEQ (REGION [0, 1] rfl (RUN0 2 [] [(0, I m), (3, B (decide (n < 0))), (4, .v (.string (bs out))), (5, I (Int.tmod m 10)), (15, B (decide ((Int.tmod m 10) < 0)))] ?_ rfl ?_)))))
   · as_aux_lemma => kernel_rfl
   refine ENDOPS (NEXT (IF (decide ((Int.tmod m 10) < 0)) ?_ (fun bh3 => ?_) (fun bh3 => ?_)))
   · as_aux_lemma => kernel_rfl
   ·
    have h3 := bh3
    have h3 := of_decide_eq_true h3
    refine REGION [0, 1, 2] rfl (RUN0 3 [] [(0, I m), (3, B (decide (n < 0))), (4, .v (.string (bs out))), (5, I (wr (0 - (Int.tmod m 10))))] ?_ rfl ?_)
    · as_aux_lemma => kernel_rfl
    refine ENDOPS (NEXT (SEQ (REGION [0, 1, 2, 3, 4, 5, 6, 7] rfl (RUN0 3 [3, 4, 5, 6, 7] [(0, I m), (3, B (decide (n < 0))), (4, .v (.string (bs out))), (20, .v (.int .u8 (IntKind.wrap .u8 (wr (48 + (wr (0 - (Int.tmod m 10))))))))] ?_ rfl ?_))))
    · as_aux_lemma => kernel_rfl
    refine CAST (d := 20) (.int .u8 (IntKind.wrap .u8 (wr (48 + (wr (0 - (Int.tmod m 10))))))) (.int .u8 (((byteOf (wr (48 + (wr (0 - (Int.tmod m 10)))))).toNat : Nat) : Int)) ?_ (v8 (wr (48 + (wr (0 - (Int.tmod m 10)))))) ?_
    · as_aux_lemma => kernel_rfl
    refine OPC (BUILDS 22 1 #[(0, .tmp 20)] 21 22 ?_ (NL rfl) 5 [.int .u8 (((byteOf (wr (48 + (wr (0 - (Int.tmod m 10)))))).toNat : Nat) : Int)] ?_ byteL ([byteOf (wr (48 + (wr (0 - (Int.tmod m 10)))))] : List UInt8) rfl (by simp only [maxLen]; omega) [] [] _ rfl (flatRep rfl) (fun a4 ha5 => ?_))
    iterate 2 (as_aux_lemma => kernel_rfl)
    refine FACT (1 = ([byteOf (wr (48 + (wr (0 - (Int.tmod m 10)))))] : List UInt8).length) (fun w hw => (SlO.lenE (hw.own 0 rfl)).1) (fun hln6 => ?_)
    refine OPC (RUNV (.convert 22 9 (.tmp 21)) 22 9 ?_ (NL rfl) (.string (bs ([byteOf (wr (48 + (wr (0 - (Int.tmod m 10)))))] : List UInt8))) (runs_bstr (a := a4) (n := 1) (c := 1) (xs := ([byteOf (wr (48 + (wr (0 - (Int.tmod m 10)))))] : List UInt8)) (e := 5) ?_ ?_ ?_ ?_ hln6.symm (fun w hw => (hw.rdO 0 rfl))) ?_)
    iterate 5 (as_aux_lemma => kernel_rfl)
    refine RUN0 1 [6, 7] [(0, I m), (3, B (decide (n < 0))), (22, .v (.string (bs ([byteOf (wr (48 + (wr (0 - (Int.tmod m 10)))))] : List UInt8)))), (23, .v (.string (bs out)))] ?_ rfl ?_
    · as_aux_lemma => kernel_rfl
    refine OPC (RUNV (.binOp .add 9 (.tmp 22) (.tmp 23) 9) 24 9 ?_ (NL rfl) (.string (bs (([byteOf (wr (48 + (wr (0 - (Int.tmod m 10)))))] : List UInt8) ++ out))) (runs_scat (a := ([byteOf (wr (48 + (wr (0 - (Int.tmod m 10)))))] : List UInt8)) (b := out) ?_ ?_ (by first | omega | (simp only [List.length_append, List.length_cons, List.length_nil, List.length_take, List.length_drop] at *; omega))) ?_)
    iterate 3 (as_aux_lemma => kernel_rfl)
    refine RUN0 1 [] [(0, I m), (3, B (decide (n < 0))), (4, .v (.string (bs (([byteOf (wr (48 + (wr (0 - (Int.tmod m 10)))))] : List UInt8) ++ out))))] ?_ rfl ?_
    · as_aux_lemma => kernel_rfl
    refine ENDOPS (NEXT (REGION [0, 1, 2] rfl (RUN0 3 [] [(0, I (wr (Int.tdiv m 10))), (3, B (decide (n < 0))), (4, .v (.string (bs (([byteOf (wr (48 + (wr (0 - (Int.tmod m 10)))))] : List UInt8) ++ out))))] ?_ rfl ?_)))
    · as_aux_lemma => kernel_rfl
    refine ENDOPS (OUTN (BACK (wr (Int.tdiv m 10), ([byteOf (wr (48 + (wr (0 - (Int.tmod m 10)))))] : List UInt8) ++ out) [0, 3, 4] 0 [] _ ⟨(quo10 hm).1, by rw [← hv, (quo10 hm).2, ddz_step (u := m.natAbs) (by omega)]; first | (rw [dig_pos hm (by assumption)]; simp) | (rw [dig_neg hm (by assumption)]; simp)⟩ (by have := (quo10 hm).2; dsimp only; omega) ?_ rfl rfl rfl))
    · as_aux_lemma => kernel_rfl
   ·
    have h3 := bh3
    have h3 := of_decide_eq_false h3
    refine SKIP (NEXT (SEQ (REGION [0, 1, 2, 3, 4, 5, 6, 7] rfl (RUN0 3 [3, 4, 5, 6, 7] [(0, I m), (3, B (decide (n < 0))), (4, .v (.string (bs out))), (20, .v (.int .u8 (IntKind.wrap .u8 (wr (48 + (Int.tmod m 10))))))] ?_ rfl ?_))))
    · as_aux_lemma => kernel_rfl
    refine CAST (d := 20) (.int .u8 (IntKind.wrap .u8 (wr (48 + (Int.tmod m 10))))) (.int .u8 (((byteOf (wr (48 + (Int.tmod m 10)))).toNat : Nat) : Int)) ?_ (v8 (wr (48 + (Int.tmod m 10)))) ?_
    · as_aux_lemma => kernel_rfl
    refine OPC (BUILDS 22 1 #[(0, .tmp 20)] 21 22 ?_ (NL rfl) 5 [.int .u8 (((byteOf (wr (48 + (Int.tmod m 10)))).toNat : Nat) : Int)] ?_ byteL ([byteOf (wr (48 + (Int.tmod m 10)))] : List UInt8) rfl (by simp only [maxLen]; omega) [] [] _ rfl (flatRep rfl) (fun a7 ha8 => ?_))
    iterate 2 (as_aux_lemma => kernel_rfl)
    refine FACT (1 = ([byteOf (wr (48 + (Int.tmod m 10)))] : List UInt8).length) (fun w hw => (SlO.lenE (hw.own 0 rfl)).1) (fun hln9 => ?_)
    refine OPC (RUNV (.convert 22 9 (.tmp 21)) 22 9 ?_ (NL rfl) (.string (bs ([byteOf (wr (48 + (Int.tmod m 10)))] : List UInt8))) (runs_bstr (a := a7) (n := 1) (c := 1) (xs := ([byteOf (wr (48 + (Int.tmod m 10)))] : List UInt8)) (e := 5) ?_ ?_ ?_ ?_ hln9.symm (fun w hw => (hw.rdO 0 rfl))) ?_)
    iterate 5 (as_aux_lemma => kernel_rfl)
    refine RUN0 1 [6, 7] [(0, I m), (3, B (decide (n < 0))), (22, .v (.string (bs ([byteOf (wr (48 + (Int.tmod m 10)))] : List UInt8)))), (23, .v (.string (bs out)))] ?_ rfl ?_
    · as_aux_lemma => kernel_rfl
    refine OPC (RUNV (.binOp .add 9 (.tmp 22) (.tmp 23) 9) 24 9 ?_ (NL rfl) (.string (bs (([byteOf (wr (48 + (Int.tmod m 10)))] : List UInt8) ++ out))) (runs_scat (a := ([byteOf (wr (48 + (Int.tmod m 10)))] : List UInt8)) (b := out) ?_ ?_ (by first | omega | (simp only [List.length_append, List.length_cons, List.length_nil, List.length_take, List.length_drop] at *; omega))) ?_)
    iterate 3 (as_aux_lemma => kernel_rfl)
    refine RUN0 1 [] [(0, I m), (3, B (decide (n < 0))), (4, .v (.string (bs (([byteOf (wr (48 + (Int.tmod m 10)))] : List UInt8) ++ out))))] ?_ rfl ?_
    · as_aux_lemma => kernel_rfl
    refine ENDOPS (NEXT (REGION [0, 1, 2] rfl (RUN0 3 [] [(0, I (wr (Int.tdiv m 10))), (3, B (decide (n < 0))), (4, .v (.string (bs (([byteOf (wr (48 + (Int.tmod m 10)))] : List UInt8) ++ out))))] ?_ rfl ?_)))
    · as_aux_lemma => kernel_rfl
    refine ENDOPS (OUTN (BACK (wr (Int.tdiv m 10), ([byteOf (wr (48 + (Int.tmod m 10)))] : List UInt8) ++ out) [0, 3, 4] 0 [] _ ⟨(quo10 hm).1, by rw [← hv, (quo10 hm).2, ddz_step (u := m.natAbs) (by omega)]; first | (rw [dig_pos hm (by assumption)]; simp) | (rw [dig_neg hm (by assumption)]; simp)⟩ (by have := (quo10 hm).2; dsimp only; omega) ?_ rfl rfl rfl))
    · as_aux_lemma => kernel_rfl
  ·
   have h2 := bh2
   have h2 := bneF h2
   refine EXIT (PASS trivial (PASS trivial (OUT (NEXT (SEQ (SEQ (REGION [0] rfl (RUN0 1 [] [(4, .v (.string (bs out))), (27, B (decide (n < 0)))] ?_ rfl ?_))))))))
   · as_aux_lemma => kernel_rfl
   refine ENDOPS (NEXT (IF (decide (n < 0)) ?_ (fun bh10 => ?_) (fun bh10 => ?_)))
   · as_aux_lemma => kernel_rfl
   ·
    have h10 := bh10
    have h10 := of_decide_eq_true h10
    refine SEQ (REGION [0, 1, 2] rfl (RUN0 1 [1, 2] [(28, .v (.string (bs out)))] ?_ rfl ?_))
    · as_aux_lemma => kernel_rfl
    refine OPC (RUNV (.binOp .add 9 (.const (.string (bs ([45])))) (.tmp 28) 9) 29 9 ?_ (NL rfl) (.string (bs (([45]) ++ out))) (runs_scat (a := [45]) (b := out) ?_ ?_ (by first | omega | (simp only [List.length_append, List.length_cons, List.length_nil, List.length_take, List.length_drop] at *; omega))) ?_)
    iterate 3 (as_aux_lemma => kernel_rfl)
    refine RUN0 1 [] [(2, .v (.string (bs (([45]) ++ out))))] ?_ rfl ?_
    · as_aux_lemma => kernel_rfl
    refine ENDOPS (NEXT (RET (PASS trivial (FIN (.string (bs (([45]) ++ out))) ?_ () ?_ [] ?_))))
    · as_aux_lemma => kernel_rfl
    · (show Value.string _ = Value.string (bs (Lib.itoa n)); congr 2; first | (subst_vars; exact itoa_zero.symm) | (rw [itoa_of (by assumption), ← hv]; simp_all [ddz]))
    · rfl
   ·
    have h10 := bh10
    have h10 := of_decide_eq_false h10
    refine SKIP (NEXT (SEQ (REGION [0, 1] rfl (RUN0 2 [] [(2, .v (.string (bs out)))] ?_ rfl ?_))))
    · as_aux_lemma => kernel_rfl
    refine ENDOPS (NEXT (RET (FIN (.string (bs out)) ?_ () ?_ [] ?_)))
    · as_aux_lemma => kernel_rfl
    · (show Value.string _ = Value.string (bs (Lib.itoa n)); congr 2; first | (subst_vars; exact itoa_zero.symm) | (rw [itoa_of (by assumption), ← hv]; simp_all [ddz]))
    · rfl

theorem itoa_c (W : World) (n : Int) (hn : i64R n) (htab : Tab Tryz.prog W) : Spec Tryz.prog W [] 40 #[vi n] (RV (.string (bs (Lib.itoa n)))) := Spec.grow (Tryz.strconv_Itoa n hn.1 hn.2 W htab)

theorem iDigits_c (W : World) (n : Int) (hn : i64R n) (htab : Tab Tryz.prog W) : Spec Tryz.prog W [] 22 #[vi n] (RV (.string (bs (Lib.itoa n)))) := by
 refine ENTER0 (N := 5) (vs := [vi n]) Tryz.func22 rfl rfl (NL rfl) ?_
 refine SEQ (REGION [0] rfl (RUN0 1 [] [(0, I n)] ?_ rfl ?_))
 · as_aux_lemma => kernel_rfl
 refine ENDOPS (NEXT (SEQ (REGION [0, 1, 2] rfl (RUN0 1 [1, 2] [(3, I n)] ?_ rfl ?_))))
 · as_aux_lemma => kernel_rfl
 refine OPC (CALL 40 #[vi n] (some 4) ?_ [] [] _ rfl (RV (.string (bs (Lib.itoa n)))) (fun w hw => itoa_c w n (by first | assumption | exact wr_range _ | (unfold i64R at *; omega) | (simp only [i64R] at *; omega)) (htab.fr hw.fr)) (NO rfl) ?_)
 · as_aux_lemma => kernel_rfl
 rintro ⟨⟩
 have hr1 := itoa_len (n := n) (by first | assumption | exact wr_range _ | (unfold i64R at *; omega) | (simp only [i64R] at *; omega))
 refine RUN0 1 [] [(2, .v (.string (bs (Lib.itoa n))))] ?_ rfl ?_
 · as_aux_lemma => kernel_rfl
 refine ENDOPS (NEXT (RET (FIN (.string (bs (Lib.itoa n))) ?_ () ?_ [] ?_)))
 · as_aux_lemma => kernel_rfl
 · simp [RV]
 · rfl

theorem sReqLine_c (W : World) (q : Req) : Spec Tryz.prog W [] 19 #[.agg #[vi q.kind, vi q.id, vi q.cabin, vi q.from', vi q.size, vi q.tier]] (RV (.string (bs (reqLine q)))) := by
 refine ENTER0 (N := 67) (vs := [.agg #[vi q.kind, vi q.id, vi q.cabin, vi q.from', vi q.size, vi q.tier]]) Tryz.func19 rfl rfl (NL rfl) ?_
 refine SEQ (REGION [0, 1] rfl (RUN 2 [] [(1, .p 0 0)] [(30, [vi q.kind, vi q.id, vi q.cabin, vi q.from', vi q.size, vi q.tier])] ?_ rfl ?_))
 · as_aux_lemma => kernel_rfl
 refine ENDOPS (NEXT (SEQ (SEQ (REGION [0, 1, 2] rfl (RUN0 1 [1, 2] [(1, .p 0 0), (5, .v (.agg #[vi q.kind, vi q.id, vi q.cabin, vi q.from', vi q.size, vi q.tier]))] ?_ rfl ?_)))))
 · as_aux_lemma => kernel_rfl
 refine OPC (CALL 35 #[.agg #[vi q.kind, vi q.id, vi q.cabin, vi q.from', vi q.size, vi q.tier]] (some 6) ?_ [] [] _ rfl (RV (.bool (reqOk q))) (fun w hw => sReqOk_c w q) (NO rfl) ?_)
 · as_aux_lemma => kernel_rfl
 rintro ⟨⟩
 refine RUN0 1 [] [(1, .p 0 0), (7, B (!(reqOk q)))] ?_ rfl ?_
 · as_aux_lemma => kernel_rfl
 refine ENDOPS (NEXT (IF (!(reqOk q)) ?_ (fun bh1 => ?_) (fun bh1 => ?_)))
 · as_aux_lemma => kernel_rfl
 ·
  have h1 := bh1
  have h1 := notT h1
  refine SEQ (REGION [0] rfl (RUN0 1 [] [(2, .v (.string (bs ([]))))] ?_ rfl ?_))
  · as_aux_lemma => kernel_rfl
  refine ENDOPS (NEXT (RET (PASS trivial (FIN (.string (bs ([]))) ?_ () ?_ [] ?_))))
  · as_aux_lemma => kernel_rfl
  · (first | (simp [RV, reqLine, reqWord, reqWords, *]; done) | (have h7 : q.kind = 7 := (by omega); simp [RV, reqLine, reqWord, reqWords, *]; done) | (have h9 : ¬ q.from' = -1 := (by omega); simp [RV, reqLine, reqWord, reqWords, *]; done) | (have h9 : q.from' = -1 := (by omega); simp [RV, reqLine, reqWord, reqWords, *]))
  · rfl
 ·
  have h1 := bh1
  have h1 := notF h1
  have hq := reqOk_rng h1
  refine SKIP (NEXT (SEQ (REGION [0, 1, 2, 3] rfl (RUN0 2 [2, 3] [(1, .p 0 0), (9, I q.kind)] ?_ rfl ?_))))
  · as_aux_lemma => kernel_rfl
  refine OPC (CALL 36 #[vi q.kind] (some 10) ?_ [] [] _ rfl (RV (.string (bs (reqWord q.kind)))) (fun w hw => l29Word_c w q.kind (by omega)) (NO rfl) ?_)
  · as_aux_lemma => kernel_rfl
  rintro ⟨⟩
  have hr2 := reqWord_len q.kind
  refine RUN0 1 [] [(1, .p 0 0), (3, .v (.string (bs (reqWord q.kind))))] ?_ rfl ?_
  · as_aux_lemma => kernel_rfl
  refine ENDOPS (NEXT (SEQ (SEQ (REGION [0, 1] rfl (RUN0 2 [] [(1, .p 0 0), (3, .v (.string (bs (reqWord q.kind)))), (12, I q.kind)] ?_ rfl ?_)))))
  · as_aux_lemma => kernel_rfl
  refine ENDOPS (NEXT (BLOCK (SEQ (REGION [0, 1] rfl (RUN0 2 [] [(1, .p 0 0), (3, .v (.string (bs (reqWord q.kind)))), (12, I q.kind), (13, B (q.kind == 1))] ?_ rfl ?_)))))
  · as_aux_lemma => kernel_rfl
  refine ENDOPS (NEXT (IF (q.kind == 1) ?_ (fun bh3 => ?_) (fun bh3 => ?_)))
  · as_aux_lemma => kernel_rfl
  ·
   have h3 := bh3
   have h3 := eq_of_beq h3
   refine SEQ (REGION [0] rfl (RUN0 1 [] [(1, .p 0 0), (3, .v (.string (bs (reqWord q.kind)))), (4, .v (.string (bs ([45]))))] ?_ rfl ?_))
   · as_aux_lemma => kernel_rfl
   refine ENDOPS (NEXT (SEQ (SEQ (REGION [0, 1, 2] rfl (RUN0 3 [] [(1, .p 0 0), (3, .v (.string (bs (reqWord q.kind)))), (4, .v (.string (bs ([45])))), (17, B (decide (q.from' ≥ 0)))] ?_ rfl ?_)))))
   · as_aux_lemma => kernel_rfl
   refine ENDOPS (NEXT (IF (decide (q.from' ≥ 0)) ?_ (fun bh4 => ?_) (fun bh4 => ?_)))
   · as_aux_lemma => kernel_rfl
   ·
    have h4 := bh4
    have h4 := of_decide_eq_true h4
    refine REGION [0, 1, 2, 3] rfl (RUN0 2 [2, 3] [(1, .p 0 0), (3, .v (.string (bs (reqWord q.kind)))), (19, I q.from')] ?_ rfl ?_)
    · as_aux_lemma => kernel_rfl
    refine OPC (CALL 37 #[vi q.from'] (some 20) ?_ [] [] _ rfl (RV (.string (bs (Lib.itoa q.from')))) (fun w hw => sDigits_c w q.from' (by first | assumption | exact wr_range _ | (unfold i64R at *; omega) | (simp only [i64R] at *; omega))) (NO rfl) ?_)
    · as_aux_lemma => kernel_rfl
    rintro ⟨⟩
    have hr5 := itoa_len (n := q.from') (by first | assumption | exact wr_range _ | (unfold i64R at *; omega) | (simp only [i64R] at *; omega))
    refine RUN0 1 [] [(1, .p 0 0), (3, .v (.string (bs (reqWord q.kind)))), (4, .v (.string (bs (Lib.itoa q.from'))))] ?_ rfl ?_
    · as_aux_lemma => kernel_rfl
    refine ENDOPS (NEXT (SEQ (REGIONQ ?_ ?_ ?_)))
    iterate 2 (as_aux_lemma => kernel_rfl)
    refine QRUN 1 0 1 [(1, .p 0 0), (4, .v (.string (bs (Lib.itoa q.from')))), (21, .v (.string (bs (reqWord q.kind))))] ?_ rfl ?_
    · as_aux_lemma => kernel_rfl
    refine QRUNV (.binOp .add 9 (.tmp 21) (.const (.string (bs ([32])))) 9) 22 9 ?_ (NL rfl) (.string (bs ((reqWord q.kind) ++ ([32])))) (runs_scat (a := reqWord q.kind) (b := [32]) ?_ ?_ (by first | omega | (simp only [List.length_append, List.length_cons, List.length_nil, List.length_take, List.length_drop] at *; omega))) ?_
    iterate 3 (as_aux_lemma => kernel_rfl)
    refine QRUN 2 2 4 [(1, .p 0 0), (4, .v (.string (bs (Lib.itoa q.from')))), (22, .v (.string (bs ((reqWord q.kind) ++ ([32]))))), (24, I q.id)] ?_ rfl ?_
    · as_aux_lemma => kernel_rfl
    have hr6 := itoa_len (n := q.id) (by first | assumption | exact wr_range _ | (unfold i64R at *; omega) | (simp only [i64R] at *; omega))
    refine QCALL 37 #[vi q.id] (some 25) ?_ (.string (bs (Lib.itoa q.id))) (fun w hw => sDigits_c w q.id (by first | assumption | exact wr_range _ | (unfold i64R at *; omega) | (simp only [i64R] at *; omega))) (NO rfl) ?_
    · as_aux_lemma => kernel_rfl
    refine QRUNV (.binOp .add 9 (.tmp 22) (.tmp 25) 9) 26 9 ?_ (NL rfl) (.string (bs (((reqWord q.kind) ++ ([32])) ++ (Lib.itoa q.id)))) (runs_scat (a := (reqWord q.kind) ++ ([32])) (b := Lib.itoa q.id) ?_ ?_ (by first | omega | (simp only [List.length_append, List.length_cons, List.length_nil, List.length_take, List.length_drop] at *; omega))) ?_
    iterate 3 (as_aux_lemma => kernel_rfl)
    refine QRUNV (.binOp .add 9 (.tmp 26) (.const (.string (bs ([32])))) 9) 27 9 ?_ (NL rfl) (.string (bs ((((reqWord q.kind) ++ ([32])) ++ (Lib.itoa q.id)) ++ ([32])))) (runs_scat (a := ((reqWord q.kind) ++ ([32])) ++ (Lib.itoa q.id)) (b := [32]) ?_ ?_ (by first | omega | (simp only [List.length_append, List.length_cons, List.length_nil, List.length_take, List.length_drop] at *; omega))) ?_
    iterate 3 (as_aux_lemma => kernel_rfl)
    refine QRUN 2 7 9 [(1, .p 0 0), (4, .v (.string (bs (Lib.itoa q.from')))), (27, .v (.string (bs ((((reqWord q.kind) ++ ([32])) ++ (Lib.itoa q.id)) ++ ([32]))))), (29, I q.cabin)] ?_ rfl ?_
    · as_aux_lemma => kernel_rfl
    have hr7 := itoa_len (n := q.cabin) (by first | assumption | exact wr_range _ | (unfold i64R at *; omega) | (simp only [i64R] at *; omega))
    refine QCALL 37 #[vi q.cabin] (some 30) ?_ (.string (bs (Lib.itoa q.cabin))) (fun w hw => sDigits_c w q.cabin (by first | assumption | exact wr_range _ | (unfold i64R at *; omega) | (simp only [i64R] at *; omega))) (NO rfl) ?_
    · as_aux_lemma => kernel_rfl
    refine QRUNV (.binOp .add 9 (.tmp 27) (.tmp 30) 9) 31 9 ?_ (NL rfl) (.string (bs (((((reqWord q.kind) ++ ([32])) ++ (Lib.itoa q.id)) ++ ([32])) ++ (Lib.itoa q.cabin)))) (runs_scat (a := (((reqWord q.kind) ++ ([32])) ++ (Lib.itoa q.id)) ++ ([32])) (b := Lib.itoa q.cabin) ?_ ?_ (by first | omega | (simp only [List.length_append, List.length_cons, List.length_nil, List.length_take, List.length_drop] at *; omega))) ?_
    iterate 3 (as_aux_lemma => kernel_rfl)
    refine QRUNV (.binOp .add 9 (.tmp 31) (.const (.string (bs ([32])))) 9) 32 9 ?_ (NL rfl) (.string (bs ((((((reqWord q.kind) ++ ([32])) ++ (Lib.itoa q.id)) ++ ([32])) ++ (Lib.itoa q.cabin)) ++ ([32])))) (runs_scat (a := ((((reqWord q.kind) ++ ([32])) ++ (Lib.itoa q.id)) ++ ([32])) ++ (Lib.itoa q.cabin)) (b := [32]) ?_ ?_ (by first | omega | (simp only [List.length_append, List.length_cons, List.length_nil, List.length_take, List.length_drop] at *; omega))) ?_
    iterate 3 (as_aux_lemma => kernel_rfl)
    refine QRUN 1 12 13 [(1, .p 0 0), (32, .v (.string (bs ((((((reqWord q.kind) ++ ([32])) ++ (Lib.itoa q.id)) ++ ([32])) ++ (Lib.itoa q.cabin)) ++ ([32]))))), (33, .v (.string (bs (Lib.itoa q.from'))))] ?_ rfl ?_
    · as_aux_lemma => kernel_rfl
    refine QRUNV (.binOp .add 9 (.tmp 32) (.tmp 33) 9) 34 9 ?_ (NL rfl) (.string (bs (((((((reqWord q.kind) ++ ([32])) ++ (Lib.itoa q.id)) ++ ([32])) ++ (Lib.itoa q.cabin)) ++ ([32])) ++ (Lib.itoa q.from')))) (runs_scat (a := (((((reqWord q.kind) ++ ([32])) ++ (Lib.itoa q.id)) ++ ([32])) ++ (Lib.itoa q.cabin)) ++ ([32])) (b := Lib.itoa q.from') ?_ ?_ (by first | omega | (simp only [List.length_append, List.length_cons, List.length_nil, List.length_take, List.length_drop] at *; omega))) ?_
    iterate 3 (as_aux_lemma => kernel_rfl)
    refine QRUNV (.binOp .add 9 (.tmp 34) (.const (.string (bs ([32])))) 9) 35 9 ?_ (NL rfl) (.string (bs ((((((((reqWord q.kind) ++ ([32])) ++ (Lib.itoa q.id)) ++ ([32])) ++ (Lib.itoa q.cabin)) ++ ([32])) ++ (Lib.itoa q.from')) ++ ([32])))) (runs_scat (a := ((((((reqWord q.kind) ++ ([32])) ++ (Lib.itoa q.id)) ++ ([32])) ++ (Lib.itoa q.cabin)) ++ ([32])) ++ (Lib.itoa q.from')) (b := [32]) ?_ ?_ (by first | omega | (simp only [List.length_append, List.length_cons, List.length_nil, List.length_take, List.length_drop] at *; omega))) ?_
    iterate 3 (as_aux_lemma => kernel_rfl)
    refine QRUN 2 15 17 [(1, .p 0 0), (35, .v (.string (bs ((((((((reqWord q.kind) ++ ([32])) ++ (Lib.itoa q.id)) ++ ([32])) ++ (Lib.itoa q.cabin)) ++ ([32])) ++ (Lib.itoa q.from')) ++ ([32]))))), (37, I q.size)] ?_ rfl ?_
    · as_aux_lemma => kernel_rfl
    have hr8 := itoa_len (n := q.size) (by first | assumption | exact wr_range _ | (unfold i64R at *; omega) | (simp only [i64R] at *; omega))
    refine QCALL 37 #[vi q.size] (some 38) ?_ (.string (bs (Lib.itoa q.size))) (fun w hw => sDigits_c w q.size (by first | assumption | exact wr_range _ | (unfold i64R at *; omega) | (simp only [i64R] at *; omega))) (NO rfl) ?_
    · as_aux_lemma => kernel_rfl
    refine QRUNV (.binOp .add 9 (.tmp 35) (.tmp 38) 9) 39 9 ?_ (NL rfl) (.string (bs (((((((((reqWord q.kind) ++ ([32])) ++ (Lib.itoa q.id)) ++ ([32])) ++ (Lib.itoa q.cabin)) ++ ([32])) ++ (Lib.itoa q.from')) ++ ([32])) ++ (Lib.itoa q.size)))) (runs_scat (a := (((((((reqWord q.kind) ++ ([32])) ++ (Lib.itoa q.id)) ++ ([32])) ++ (Lib.itoa q.cabin)) ++ ([32])) ++ (Lib.itoa q.from')) ++ ([32])) (b := Lib.itoa q.size) ?_ ?_ (by first | omega | (simp only [List.length_append, List.length_cons, List.length_nil, List.length_take, List.length_drop] at *; omega))) ?_
    iterate 3 (as_aux_lemma => kernel_rfl)
    refine QRUNV (.binOp .add 9 (.tmp 39) (.const (.string (bs ([32])))) 9) 40 9 ?_ (NL rfl) (.string (bs ((((((((((reqWord q.kind) ++ ([32])) ++ (Lib.itoa q.id)) ++ ([32])) ++ (Lib.itoa q.cabin)) ++ ([32])) ++ (Lib.itoa q.from')) ++ ([32])) ++ (Lib.itoa q.size)) ++ ([32])))) (runs_scat (a := ((((((((reqWord q.kind) ++ ([32])) ++ (Lib.itoa q.id)) ++ ([32])) ++ (Lib.itoa q.cabin)) ++ ([32])) ++ (Lib.itoa q.from')) ++ ([32])) ++ (Lib.itoa q.size)) (b := [32]) ?_ ?_ (by first | omega | (simp only [List.length_append, List.length_cons, List.length_nil, List.length_take, List.length_drop] at *; omega))) ?_
    iterate 3 (as_aux_lemma => kernel_rfl)
    refine QRUN 2 20 22 [(40, .v (.string (bs ((((((((((reqWord q.kind) ++ ([32])) ++ (Lib.itoa q.id)) ++ ([32])) ++ (Lib.itoa q.cabin)) ++ ([32])) ++ (Lib.itoa q.from')) ++ ([32])) ++ (Lib.itoa q.size)) ++ ([32]))))), (42, I q.tier)] ?_ rfl ?_
    · as_aux_lemma => kernel_rfl
    have hr9 := itoa_len (n := q.tier) (by first | assumption | exact wr_range _ | (unfold i64R at *; omega) | (simp only [i64R] at *; omega))
    refine QCALL 37 #[vi q.tier] (some 43) ?_ (.string (bs (Lib.itoa q.tier))) (fun w hw => sDigits_c w q.tier (by first | assumption | exact wr_range _ | (unfold i64R at *; omega) | (simp only [i64R] at *; omega))) (NO rfl) ?_
    · as_aux_lemma => kernel_rfl
    refine QRUNV (.binOp .add 9 (.tmp 40) (.tmp 43) 9) 44 9 ?_ (NL rfl) (.string (bs (((((((((((reqWord q.kind) ++ ([32])) ++ (Lib.itoa q.id)) ++ ([32])) ++ (Lib.itoa q.cabin)) ++ ([32])) ++ (Lib.itoa q.from')) ++ ([32])) ++ (Lib.itoa q.size)) ++ ([32])) ++ (Lib.itoa q.tier)))) (runs_scat (a := (((((((((reqWord q.kind) ++ ([32])) ++ (Lib.itoa q.id)) ++ ([32])) ++ (Lib.itoa q.cabin)) ++ ([32])) ++ (Lib.itoa q.from')) ++ ([32])) ++ (Lib.itoa q.size)) ++ ([32])) (b := Lib.itoa q.tier) ?_ ?_ (by first | omega | (simp only [List.length_append, List.length_cons, List.length_nil, List.length_take, List.length_drop] at *; omega))) ?_
    iterate 3 (as_aux_lemma => kernel_rfl)
    refine QRUN 1 24 25 [(2, .v (.string (bs (((((((((((reqWord q.kind) ++ ([32])) ++ (Lib.itoa q.id)) ++ ([32])) ++ (Lib.itoa q.cabin)) ++ ([32])) ++ (Lib.itoa q.from')) ++ ([32])) ++ (Lib.itoa q.size)) ++ ([32])) ++ (Lib.itoa q.tier)))))] ?_ rfl ?_
    · as_aux_lemma => kernel_rfl
    refine QEND rfl (NEXT (RET (OUTR (PASS trivial (FIN (.string (bs (((((((((((reqWord q.kind) ++ ([32])) ++ (Lib.itoa q.id)) ++ ([32])) ++ (Lib.itoa q.cabin)) ++ ([32])) ++ (Lib.itoa q.from')) ++ ([32])) ++ (Lib.itoa q.size)) ++ ([32])) ++ (Lib.itoa q.tier)))) ?_ () ?_ [] ?_)))))
    · as_aux_lemma => kernel_rfl
    · (first | (simp [RV, reqLine, reqWord, reqWords, *]; done) | (have h7 : q.kind = 7 := (by omega); simp [RV, reqLine, reqWord, reqWords, *]; done) | (have h9 : ¬ q.from' = -1 := (by omega); simp [RV, reqLine, reqWord, reqWords, *]; done) | (have h9 : q.from' = -1 := (by omega); simp [RV, reqLine, reqWord, reqWords, *]))
    · rfl
   ·
    have h4 := bh4
    have h4 := of_decide_eq_false h4
    refine SKIP (NEXT (SEQ (REGIONQ ?_ ?_ ?_)))
    iterate 2 (as_aux_lemma => kernel_rfl)
    refine QRUN 1 0 1 [(1, .p 0 0), (4, .v (.string (bs ([45])))), (21, .v (.string (bs (reqWord q.kind))))] ?_ rfl ?_
    · as_aux_lemma => kernel_rfl
    refine QRUNV (.binOp .add 9 (.tmp 21) (.const (.string (bs ([32])))) 9) 22 9 ?_ (NL rfl) (.string (bs ((reqWord q.kind) ++ ([32])))) (runs_scat (a := reqWord q.kind) (b := [32]) ?_ ?_ (by first | omega | (simp only [List.length_append, List.length_cons, List.length_nil, List.length_take, List.length_drop] at *; omega))) ?_
    iterate 3 (as_aux_lemma => kernel_rfl)
    refine QRUN 2 2 4 [(1, .p 0 0), (4, .v (.string (bs ([45])))), (22, .v (.string (bs ((reqWord q.kind) ++ ([32]))))), (24, I q.id)] ?_ rfl ?_
    · as_aux_lemma => kernel_rfl
    have hr10 := itoa_len (n := q.id) (by first | assumption | exact wr_range _ | (unfold i64R at *; omega) | (simp only [i64R] at *; omega))
    refine QCALL 37 #[vi q.id] (some 25) ?_ (.string (bs (Lib.itoa q.id))) (fun w hw => sDigits_c w q.id (by first | assumption | exact wr_range _ | (unfold i64R at *; omega) | (simp only [i64R] at *; omega))) (NO rfl) ?_
    · as_aux_lemma => kernel_rfl
    refine QRUNV (.binOp .add 9 (.tmp 22) (.tmp 25) 9) 26 9 ?_ (NL rfl) (.string (bs (((reqWord q.kind) ++ ([32])) ++ (Lib.itoa q.id)))) (runs_scat (a := (reqWord q.kind) ++ ([32])) (b := Lib.itoa q.id) ?_ ?_ (by first | omega | (simp only [List.length_append, List.length_cons, List.length_nil, List.length_take, List.length_drop] at *; omega))) ?_
    iterate 3 (as_aux_lemma => kernel_rfl)
    refine QRUNV (.binOp .add 9 (.tmp 26) (.const (.string (bs ([32])))) 9) 27 9 ?_ (NL rfl) (.string (bs ((((reqWord q.kind) ++ ([32])) ++ (Lib.itoa q.id)) ++ ([32])))) (runs_scat (a := ((reqWord q.kind) ++ ([32])) ++ (Lib.itoa q.id)) (b := [32]) ?_ ?_ (by first | omega | (simp only [List.length_append, List.length_cons, List.length_nil, List.length_take, List.length_drop] at *; omega))) ?_
    iterate 3 (as_aux_lemma => kernel_rfl)
    refine QRUN 2 7 9 [(1, .p 0 0), (4, .v (.string (bs ([45])))), (27, .v (.string (bs ((((reqWord q.kind) ++ ([32])) ++ (Lib.itoa q.id)) ++ ([32]))))), (29, I q.cabin)] ?_ rfl ?_
    · as_aux_lemma => kernel_rfl
    have hr11 := itoa_len (n := q.cabin) (by first | assumption | exact wr_range _ | (unfold i64R at *; omega) | (simp only [i64R] at *; omega))
    refine QCALL 37 #[vi q.cabin] (some 30) ?_ (.string (bs (Lib.itoa q.cabin))) (fun w hw => sDigits_c w q.cabin (by first | assumption | exact wr_range _ | (unfold i64R at *; omega) | (simp only [i64R] at *; omega))) (NO rfl) ?_
    · as_aux_lemma => kernel_rfl
    refine QRUNV (.binOp .add 9 (.tmp 27) (.tmp 30) 9) 31 9 ?_ (NL rfl) (.string (bs (((((reqWord q.kind) ++ ([32])) ++ (Lib.itoa q.id)) ++ ([32])) ++ (Lib.itoa q.cabin)))) (runs_scat (a := (((reqWord q.kind) ++ ([32])) ++ (Lib.itoa q.id)) ++ ([32])) (b := Lib.itoa q.cabin) ?_ ?_ (by first | omega | (simp only [List.length_append, List.length_cons, List.length_nil, List.length_take, List.length_drop] at *; omega))) ?_
    iterate 3 (as_aux_lemma => kernel_rfl)
    refine QRUNV (.binOp .add 9 (.tmp 31) (.const (.string (bs ([32])))) 9) 32 9 ?_ (NL rfl) (.string (bs ((((((reqWord q.kind) ++ ([32])) ++ (Lib.itoa q.id)) ++ ([32])) ++ (Lib.itoa q.cabin)) ++ ([32])))) (runs_scat (a := ((((reqWord q.kind) ++ ([32])) ++ (Lib.itoa q.id)) ++ ([32])) ++ (Lib.itoa q.cabin)) (b := [32]) ?_ ?_ (by first | omega | (simp only [List.length_append, List.length_cons, List.length_nil, List.length_take, List.length_drop] at *; omega))) ?_
    iterate 3 (as_aux_lemma => kernel_rfl)
    refine QRUN 1 12 13 [(1, .p 0 0), (32, .v (.string (bs ((((((reqWord q.kind) ++ ([32])) ++ (Lib.itoa q.id)) ++ ([32])) ++ (Lib.itoa q.cabin)) ++ ([32]))))), (33, .v (.string (bs ([45]))))] ?_ rfl ?_
    · as_aux_lemma => kernel_rfl
    refine QRUNV (.binOp .add 9 (.tmp 32) (.tmp 33) 9) 34 9 ?_ (NL rfl) (.string (bs (((((((reqWord q.kind) ++ ([32])) ++ (Lib.itoa q.id)) ++ ([32])) ++ (Lib.itoa q.cabin)) ++ ([32])) ++ ([45])))) (runs_scat (a := (((((reqWord q.kind) ++ ([32])) ++ (Lib.itoa q.id)) ++ ([32])) ++ (Lib.itoa q.cabin)) ++ ([32])) (b := [45]) ?_ ?_ (by first | omega | (simp only [List.length_append, List.length_cons, List.length_nil, List.length_take, List.length_drop] at *; omega))) ?_
    iterate 3 (as_aux_lemma => kernel_rfl)
    refine QRUNV (.binOp .add 9 (.tmp 34) (.const (.string (bs ([32])))) 9) 35 9 ?_ (NL rfl) (.string (bs ((((((((reqWord q.kind) ++ ([32])) ++ (Lib.itoa q.id)) ++ ([32])) ++ (Lib.itoa q.cabin)) ++ ([32])) ++ ([45])) ++ ([32])))) (runs_scat (a := ((((((reqWord q.kind) ++ ([32])) ++ (Lib.itoa q.id)) ++ ([32])) ++ (Lib.itoa q.cabin)) ++ ([32])) ++ ([45])) (b := [32]) ?_ ?_ (by first | omega | (simp only [List.length_append, List.length_cons, List.length_nil, List.length_take, List.length_drop] at *; omega))) ?_
    iterate 3 (as_aux_lemma => kernel_rfl)
    refine QRUN 2 15 17 [(1, .p 0 0), (35, .v (.string (bs ((((((((reqWord q.kind) ++ ([32])) ++ (Lib.itoa q.id)) ++ ([32])) ++ (Lib.itoa q.cabin)) ++ ([32])) ++ ([45])) ++ ([32]))))), (37, I q.size)] ?_ rfl ?_
    · as_aux_lemma => kernel_rfl
    have hr12 := itoa_len (n := q.size) (by first | assumption | exact wr_range _ | (unfold i64R at *; omega) | (simp only [i64R] at *; omega))
    refine QCALL 37 #[vi q.size] (some 38) ?_ (.string (bs (Lib.itoa q.size))) (fun w hw => sDigits_c w q.size (by first | assumption | exact wr_range _ | (unfold i64R at *; omega) | (simp only [i64R] at *; omega))) (NO rfl) ?_
    · as_aux_lemma => kernel_rfl
    refine QRUNV (.binOp .add 9 (.tmp 35) (.tmp 38) 9) 39 9 ?_ (NL rfl) (.string (bs (((((((((reqWord q.kind) ++ ([32])) ++ (Lib.itoa q.id)) ++ ([32])) ++ (Lib.itoa q.cabin)) ++ ([32])) ++ ([45])) ++ ([32])) ++ (Lib.itoa q.size)))) (runs_scat (a := (((((((reqWord q.kind) ++ ([32])) ++ (Lib.itoa q.id)) ++ ([32])) ++ (Lib.itoa q.cabin)) ++ ([32])) ++ ([45])) ++ ([32])) (b := Lib.itoa q.size) ?_ ?_ (by first | omega | (simp only [List.length_append, List.length_cons, List.length_nil, List.length_take, List.length_drop] at *; omega))) ?_
    iterate 3 (as_aux_lemma => kernel_rfl)
    refine QRUNV (.binOp .add 9 (.tmp 39) (.const (.string (bs ([32])))) 9) 40 9 ?_ (NL rfl) (.string (bs ((((((((((reqWord q.kind) ++ ([32])) ++ (Lib.itoa q.id)) ++ ([32])) ++ (Lib.itoa q.cabin)) ++ ([32])) ++ ([45])) ++ ([32])) ++ (Lib.itoa q.size)) ++ ([32])))) (runs_scat (a := ((((((((reqWord q.kind) ++ ([32])) ++ (Lib.itoa q.id)) ++ ([32])) ++ (Lib.itoa q.cabin)) ++ ([32])) ++ ([45])) ++ ([32])) ++ (Lib.itoa q.size)) (b := [32]) ?_ ?_ (by first | omega | (simp only [List.length_append, List.length_cons, List.length_nil, List.length_take, List.length_drop] at *; omega))) ?_
    iterate 3 (as_aux_lemma => kernel_rfl)
    refine QRUN 2 20 22 [(40, .v (.string (bs ((((((((((reqWord q.kind) ++ ([32])) ++ (Lib.itoa q.id)) ++ ([32])) ++ (Lib.itoa q.cabin)) ++ ([32])) ++ ([45])) ++ ([32])) ++ (Lib.itoa q.size)) ++ ([32]))))), (42, I q.tier)] ?_ rfl ?_
    · as_aux_lemma => kernel_rfl
    have hr13 := itoa_len (n := q.tier) (by first | assumption | exact wr_range _ | (unfold i64R at *; omega) | (simp only [i64R] at *; omega))
    refine QCALL 37 #[vi q.tier] (some 43) ?_ (.string (bs (Lib.itoa q.tier))) (fun w hw => sDigits_c w q.tier (by first | assumption | exact wr_range _ | (unfold i64R at *; omega) | (simp only [i64R] at *; omega))) (NO rfl) ?_
    · as_aux_lemma => kernel_rfl
    refine QRUNV (.binOp .add 9 (.tmp 40) (.tmp 43) 9) 44 9 ?_ (NL rfl) (.string (bs (((((((((((reqWord q.kind) ++ ([32])) ++ (Lib.itoa q.id)) ++ ([32])) ++ (Lib.itoa q.cabin)) ++ ([32])) ++ ([45])) ++ ([32])) ++ (Lib.itoa q.size)) ++ ([32])) ++ (Lib.itoa q.tier)))) (runs_scat (a := (((((((((reqWord q.kind) ++ ([32])) ++ (Lib.itoa q.id)) ++ ([32])) ++ (Lib.itoa q.cabin)) ++ ([32])) ++ ([45])) ++ ([32])) ++ (Lib.itoa q.size)) ++ ([32])) (b := Lib.itoa q.tier) ?_ ?_ (by first | omega | (simp only [List.length_append, List.length_cons, List.length_nil, List.length_take, List.length_drop] at *; omega))) ?_
    iterate 3 (as_aux_lemma => kernel_rfl)
    refine QRUN 1 24 25 [(2, .v (.string (bs (((((((((((reqWord q.kind) ++ ([32])) ++ (Lib.itoa q.id)) ++ ([32])) ++ (Lib.itoa q.cabin)) ++ ([32])) ++ ([45])) ++ ([32])) ++ (Lib.itoa q.size)) ++ ([32])) ++ (Lib.itoa q.tier)))))] ?_ rfl ?_
    · as_aux_lemma => kernel_rfl
    refine QEND rfl (NEXT (RET (OUTR (PASS trivial (FIN (.string (bs (((((((((((reqWord q.kind) ++ ([32])) ++ (Lib.itoa q.id)) ++ ([32])) ++ (Lib.itoa q.cabin)) ++ ([32])) ++ ([45])) ++ ([32])) ++ (Lib.itoa q.size)) ++ ([32])) ++ (Lib.itoa q.tier)))) ?_ () ?_ [] ?_)))))
    · as_aux_lemma => kernel_rfl
    · (first | (simp [RV, reqLine, reqWord, reqWords, *]; done) | (have h7 : q.kind = 7 := (by omega); simp [RV, reqLine, reqWord, reqWords, *]; done) | (have h9 : ¬ q.from' = -1 := (by omega); simp [RV, reqLine, reqWord, reqWords, *]; done) | (have h9 : q.from' = -1 := (by omega); simp [RV, reqLine, reqWord, reqWords, *]))
    · rfl
  ·
   have h3 := bh3
   have h3 := ne_of_beq_false h3
   refine SEQ (REGION [0, 1] rfl (RUN0 2 [] [(1, .p 0 0), (3, .v (.string (bs (reqWord q.kind)))), (12, I q.kind), (45, B (q.kind == 3))] ?_ rfl ?_))
   · as_aux_lemma => kernel_rfl
   refine ENDOPS (NEXT (IF (q.kind == 3) ?_ (fun bh14 => ?_) (fun bh14 => ?_)))
   · as_aux_lemma => kernel_rfl
   ·
    have h14 := bh14
    have h14 := eq_of_beq h14
    refine SEQ (REGIONQ ?_ ?_ ?_)
    iterate 2 (as_aux_lemma => kernel_rfl)
    refine QRUN 1 0 1 [(1, .p 0 0), (47, .v (.string (bs (reqWord q.kind))))] ?_ rfl ?_
    · as_aux_lemma => kernel_rfl
    refine QRUNV (.binOp .add 9 (.tmp 47) (.const (.string (bs ([32])))) 9) 48 9 ?_ (NL rfl) (.string (bs ((reqWord q.kind) ++ ([32])))) (runs_scat (a := reqWord q.kind) (b := [32]) ?_ ?_ (by first | omega | (simp only [List.length_append, List.length_cons, List.length_nil, List.length_take, List.length_drop] at *; omega))) ?_
    iterate 3 (as_aux_lemma => kernel_rfl)
    refine QRUN 2 2 4 [(1, .p 0 0), (48, .v (.string (bs ((reqWord q.kind) ++ ([32]))))), (50, I q.cabin)] ?_ rfl ?_
    · as_aux_lemma => kernel_rfl
    have hr15 := itoa_len (n := q.cabin) (by first | assumption | exact wr_range _ | (unfold i64R at *; omega) | (simp only [i64R] at *; omega))
    refine QCALL 37 #[vi q.cabin] (some 51) ?_ (.string (bs (Lib.itoa q.cabin))) (fun w hw => sDigits_c w q.cabin (by first | assumption | exact wr_range _ | (unfold i64R at *; omega) | (simp only [i64R] at *; omega))) (NO rfl) ?_
    · as_aux_lemma => kernel_rfl
    refine QRUNV (.binOp .add 9 (.tmp 48) (.tmp 51) 9) 52 9 ?_ (NL rfl) (.string (bs (((reqWord q.kind) ++ ([32])) ++ (Lib.itoa q.cabin)))) (runs_scat (a := (reqWord q.kind) ++ ([32])) (b := Lib.itoa q.cabin) ?_ ?_ (by first | omega | (simp only [List.length_append, List.length_cons, List.length_nil, List.length_take, List.length_drop] at *; omega))) ?_
    iterate 3 (as_aux_lemma => kernel_rfl)
    refine QRUNV (.binOp .add 9 (.tmp 52) (.const (.string (bs ([32])))) 9) 53 9 ?_ (NL rfl) (.string (bs ((((reqWord q.kind) ++ ([32])) ++ (Lib.itoa q.cabin)) ++ ([32])))) (runs_scat (a := ((reqWord q.kind) ++ ([32])) ++ (Lib.itoa q.cabin)) (b := [32]) ?_ ?_ (by first | omega | (simp only [List.length_append, List.length_cons, List.length_nil, List.length_take, List.length_drop] at *; omega))) ?_
    iterate 3 (as_aux_lemma => kernel_rfl)
    refine QRUN 2 7 9 [(53, .v (.string (bs ((((reqWord q.kind) ++ ([32])) ++ (Lib.itoa q.cabin)) ++ ([32]))))), (55, I q.size)] ?_ rfl ?_
    · as_aux_lemma => kernel_rfl
    have hr16 := itoa_len (n := q.size) (by first | assumption | exact wr_range _ | (unfold i64R at *; omega) | (simp only [i64R] at *; omega))
    refine QCALL 37 #[vi q.size] (some 56) ?_ (.string (bs (Lib.itoa q.size))) (fun w hw => sDigits_c w q.size (by first | assumption | exact wr_range _ | (unfold i64R at *; omega) | (simp only [i64R] at *; omega))) (NO rfl) ?_
    · as_aux_lemma => kernel_rfl
    refine QRUNV (.binOp .add 9 (.tmp 53) (.tmp 56) 9) 57 9 ?_ (NL rfl) (.string (bs (((((reqWord q.kind) ++ ([32])) ++ (Lib.itoa q.cabin)) ++ ([32])) ++ (Lib.itoa q.size)))) (runs_scat (a := (((reqWord q.kind) ++ ([32])) ++ (Lib.itoa q.cabin)) ++ ([32])) (b := Lib.itoa q.size) ?_ ?_ (by first | omega | (simp only [List.length_append, List.length_cons, List.length_nil, List.length_take, List.length_drop] at *; omega))) ?_
    iterate 3 (as_aux_lemma => kernel_rfl)
    refine QRUN 1 11 12 [(2, .v (.string (bs (((((reqWord q.kind) ++ ([32])) ++ (Lib.itoa q.cabin)) ++ ([32])) ++ (Lib.itoa q.size)))))] ?_ rfl ?_
    · as_aux_lemma => kernel_rfl
    refine QEND rfl (NEXT (RET (OUTR (PASS trivial (FIN (.string (bs (((((reqWord q.kind) ++ ([32])) ++ (Lib.itoa q.cabin)) ++ ([32])) ++ (Lib.itoa q.size)))) ?_ () ?_ [] ?_)))))
    · as_aux_lemma => kernel_rfl
    · (first | (simp [RV, reqLine, reqWord, reqWords, *]; done) | (have h7 : q.kind = 7 := (by omega); simp [RV, reqLine, reqWord, reqWords, *]; done) | (have h9 : ¬ q.from' = -1 := (by omega); simp [RV, reqLine, reqWord, reqWords, *]; done) | (have h9 : q.from' = -1 := (by omega); simp [RV, reqLine, reqWord, reqWords, *]))
    · rfl
   ·
    have h14 := bh14
    have h14 := ne_of_beq_false h14
    refine SEQ (REGION [0, 1] rfl (RUN0 2 [] [(1, .p 0 0), (3, .v (.string (bs (reqWord q.kind)))), (58, B (q.kind == 6))] ?_ rfl ?_))
    · as_aux_lemma => kernel_rfl
    refine ENDOPS (NEXT (IF (q.kind == 6) ?_ (fun bh17 => ?_) (fun bh17 => ?_)))
    · as_aux_lemma => kernel_rfl
    ·
     have h17 := bh17
     have h17 := eq_of_beq h17
     refine SEQ (REGION [0, 1] rfl (RUN0 2 [] [(2, .v (.string (bs (reqWord q.kind))))] ?_ rfl ?_))
     · as_aux_lemma => kernel_rfl
     refine ENDOPS (NEXT (RET (OUTR (PASS trivial (FIN (.string (bs (reqWord q.kind))) ?_ () ?_ [] ?_)))))
     · as_aux_lemma => kernel_rfl
     · (first | (simp [RV, reqLine, reqWord, reqWords, *]; done) | (have h7 : q.kind = 7 := (by omega); simp [RV, reqLine, reqWord, reqWords, *]; done) | (have h9 : ¬ q.from' = -1 := (by omega); simp [RV, reqLine, reqWord, reqWords, *]; done) | (have h9 : q.from' = -1 := (by omega); simp [RV, reqLine, reqWord, reqWords, *]))
     · rfl
    ·
     have h17 := bh17
     have h17 := ne_of_beq_false h17
     refine SKIP (OUTN (NEXT (SEQ (REGION [0, 1, 2, 3, 4, 5, 6] rfl (RUN0 1 [1, 2, 3, 4, 5, 6] [(1, .p 0 0), (61, .v (.string (bs (reqWord q.kind))))] ?_ rfl ?_)))))
     · as_aux_lemma => kernel_rfl
     refine OPC (RUNV (.binOp .add 9 (.tmp 61) (.const (.string (bs ([32])))) 9) 62 9 ?_ (NL rfl) (.string (bs ((reqWord q.kind) ++ ([32])))) (runs_scat (a := reqWord q.kind) (b := [32]) ?_ ?_ (by first | omega | (simp only [List.length_append, List.length_cons, List.length_nil, List.length_take, List.length_drop] at *; omega))) ?_)
     iterate 3 (as_aux_lemma => kernel_rfl)
     refine RUN0 2 [4, 5, 6] [(62, .v (.string (bs ((reqWord q.kind) ++ ([32]))))), (64, I q.id)] ?_ rfl ?_
     · as_aux_lemma => kernel_rfl
     refine OPC (CALL 37 #[vi q.id] (some 65) ?_ [] [] _ rfl (RV (.string (bs (Lib.itoa q.id)))) (fun w hw => sDigits_c w q.id (by first | assumption | exact wr_range _ | (unfold i64R at *; omega) | (simp only [i64R] at *; omega))) (NO rfl) ?_)
     · as_aux_lemma => kernel_rfl
     rintro ⟨⟩
     have hr18 := itoa_len (n := q.id) (by first | assumption | exact wr_range _ | (unfold i64R at *; omega) | (simp only [i64R] at *; omega))
     refine OPC (RUNV (.binOp .add 9 (.tmp 62) (.tmp 65) 9) 66 9 ?_ (NL rfl) (.string (bs (((reqWord q.kind) ++ ([32])) ++ (Lib.itoa q.id)))) (runs_scat (a := (reqWord q.kind) ++ ([32])) (b := Lib.itoa q.id) ?_ ?_ (by first | omega | (simp only [List.length_append, List.length_cons, List.length_nil, List.length_take, List.length_drop] at *; omega))) ?_)
     iterate 3 (as_aux_lemma => kernel_rfl)
     refine RUN0 1 [] [(2, .v (.string (bs (((reqWord q.kind) ++ ([32])) ++ (Lib.itoa q.id)))))] ?_ rfl ?_
     · as_aux_lemma => kernel_rfl
     refine ENDOPS (NEXT (RET (FIN (.string (bs (((reqWord q.kind) ++ ([32])) ++ (Lib.itoa q.id)))) ?_ () ?_ [] ?_)))
     · as_aux_lemma => kernel_rfl
     · (first | (simp [RV, reqLine, reqWord, reqWords, *]; done) | (have h7 : q.kind = 7 := (by omega); simp [RV, reqLine, reqWord, reqWords, *]; done) | (have h9 : ¬ q.from' = -1 := (by omega); simp [RV, reqLine, reqWord, reqWords, *]; done) | (have h9 : q.from' = -1 := (by omega); simp [RV, reqLine, reqWord, reqWords, *]))
     · rfl

theorem iReqLine_c (W : World) (q : Req) (htab : Tab Tryz.prog W) : Spec Tryz.prog W [] 11 #[.agg #[vi q.kind, vi q.id, vi q.cabin, vi q.from', vi q.size, vi q.tier]] (RV (.string (bs (reqLine q)))) := by
 refine ENTER0 (N := 74) (vs := [.agg #[vi q.kind, vi q.id, vi q.cabin, vi q.from', vi q.size, vi q.tier]]) Tryz.func11 rfl rfl (NL rfl) ?_
 refine SEQ (REGION [0, 1] rfl (RUN 2 [] [(1, .p 0 0)] [(30, [vi q.kind, vi q.id, vi q.cabin, vi q.from', vi q.size, vi q.tier])] ?_ rfl ?_))
 · as_aux_lemma => kernel_rfl
 refine ENDOPS (NEXT (SEQ (SEQ (REGION [0, 1, 2] rfl (RUN0 1 [1, 2] [(1, .p 0 0), (4, .v (.agg #[vi q.kind, vi q.id, vi q.cabin, vi q.from', vi q.size, vi q.tier]))] ?_ rfl ?_)))))
 · as_aux_lemma => kernel_rfl
 refine OPC (CALL 21 #[.agg #[vi q.kind, vi q.id, vi q.cabin, vi q.from', vi q.size, vi q.tier]] (some 5) ?_ [] [] _ rfl (RV (.bool (reqOk q))) (fun w hw => iReqOk_c w q) (NO rfl) ?_)
 · as_aux_lemma => kernel_rfl
 rintro ⟨⟩
 refine RUN0 1 [] [(1, .p 0 0), (6, B (!(reqOk q)))] ?_ rfl ?_
 · as_aux_lemma => kernel_rfl
 refine ENDOPS (NEXT (IF (!(reqOk q)) ?_ (fun bh1 => ?_) (fun bh1 => ?_)))
 · as_aux_lemma => kernel_rfl
 ·
  have h1 := bh1
  have h1 := notT h1
  refine SEQ (REGION [0] rfl (RUN0 1 [] [(2, .v (.string (bs ([]))))] ?_ rfl ?_))
  · as_aux_lemma => kernel_rfl
  refine ENDOPS (NEXT (RET (PASS trivial (FIN (.string (bs ([]))) ?_ () ?_ [] ?_))))
  · as_aux_lemma => kernel_rfl
  · (first | (simp [RV, reqLine, reqWord, reqWords, *]; done) | (have h7 : q.kind = 7 := (by omega); simp [RV, reqLine, reqWord, reqWords, *]; done) | (have h9 : ¬ q.from' = -1 := (by omega); simp [RV, reqLine, reqWord, reqWords, *]; done) | (have h9 : q.from' = -1 := (by omega); simp [RV, reqLine, reqWord, reqWords, *]))
  · rfl
 ·
  have h1 := bh1
  have h1 := notF h1
  have hq := reqOk_rng h1
  refine SKIP (NEXT (SEQ (SEQ (REGION [0, 1] rfl (RUN0 2 [] [(1, .p 0 0), (8, I q.kind)] ?_ rfl ?_)))))
  · as_aux_lemma => kernel_rfl
  refine ENDOPS (NEXT (BLOCK (SEQ (REGION [0, 1] rfl (RUN0 2 [] [(1, .p 0 0), (8, I q.kind), (9, B (q.kind == 1))] ?_ rfl ?_)))))
  · as_aux_lemma => kernel_rfl
  refine ENDOPS (NEXT (IF (q.kind == 1) ?_ (fun bh2 => ?_) (fun bh2 => ?_)))
  · as_aux_lemma => kernel_rfl
  ·
   have h2 := bh2
   have h2 := eq_of_beq h2
   refine SEQ (REGION [0] rfl (RUN0 1 [] [(1, .p 0 0), (3, .v (.string (bs ([45]))))] ?_ rfl ?_))
   · as_aux_lemma => kernel_rfl
   refine ENDOPS (NEXT (SEQ (SEQ (REGION [0, 1, 2] rfl (RUN0 3 [] [(1, .p 0 0), (3, .v (.string (bs ([45])))), (13, B (q.from' != (-1)))] ?_ rfl ?_)))))
   · as_aux_lemma => kernel_rfl
   refine ENDOPS (NEXT (IF (q.from' != (-1)) ?_ (fun bh3 => ?_) (fun bh3 => ?_)))
   · as_aux_lemma => kernel_rfl
   ·
    have h3 := bh3
    have h3 := bne_iff_ne.1 h3
    refine REGION [0, 1, 2, 3] rfl (RUN0 2 [2, 3] [(1, .p 0 0), (15, I q.from')] ?_ rfl ?_)
    · as_aux_lemma => kernel_rfl
    refine OPC (CALL 22 #[vi q.from'] (some 16) ?_ [] [] _ rfl (RV (.string (bs (Lib.itoa q.from')))) (fun w hw => iDigits_c w q.from' (by first | assumption | exact wr_range _ | (unfold i64R at *; omega) | (simp only [i64R] at *; omega)) (htab.fr hw.fr)) (NO rfl) ?_)
    · as_aux_lemma => kernel_rfl
    rintro ⟨⟩
    have hr4 := itoa_len (n := q.from') (by first | assumption | exact wr_range _ | (unfold i64R at *; omega) | (simp only [i64R] at *; omega))
    refine RUN0 1 [] [(1, .p 0 0), (3, .v (.string (bs (Lib.itoa q.from'))))] ?_ rfl ?_
    · as_aux_lemma => kernel_rfl
    refine ENDOPS (NEXT (SEQ (REGIONQ ?_ ?_ ?_)))
    iterate 2 (as_aux_lemma => kernel_rfl)
    refine QRUN 2 0 2 [(1, .p 0 0), (3, .v (.string (bs (Lib.itoa q.from')))), (18, I q.id)] ?_ rfl ?_
    · as_aux_lemma => kernel_rfl
    have hr5 := itoa_len (n := q.id) (by first | assumption | exact wr_range _ | (unfold i64R at *; omega) | (simp only [i64R] at *; omega))
    refine QCALL 22 #[vi q.id] (some 19) ?_ (.string (bs (Lib.itoa q.id))) (fun w hw => iDigits_c w q.id (by first | assumption | exact wr_range _ | (unfold i64R at *; omega) | (simp only [i64R] at *; omega)) (htab.fr hw.fr)) (NO rfl) ?_
    · as_aux_lemma => kernel_rfl
    refine QRUNV (.binOp .add 9 (.const (.string (bs ([106, 111, 105, 110, 32])))) (.tmp 19) 9) 20 9 ?_ (NL rfl) (.string (bs (([106, 111, 105, 110, 32]) ++ (Lib.itoa q.id)))) (runs_scat (a := [106, 111, 105, 110, 32]) (b := Lib.itoa q.id) ?_ ?_ (by first | omega | (simp only [List.length_append, List.length_cons, List.length_nil, List.length_take, List.length_drop] at *; omega))) ?_
    iterate 3 (as_aux_lemma => kernel_rfl)
    refine QRUNV (.binOp .add 9 (.tmp 20) (.const (.string (bs ([32])))) 9) 21 9 ?_ (NL rfl) (.string (bs ((([106, 111, 105, 110, 32]) ++ (Lib.itoa q.id)) ++ ([32])))) (runs_scat (a := ([106, 111, 105, 110, 32]) ++ (Lib.itoa q.id)) (b := [32]) ?_ ?_ (by first | omega | (simp only [List.length_append, List.length_cons, List.length_nil, List.length_take, List.length_drop] at *; omega))) ?_
    iterate 3 (as_aux_lemma => kernel_rfl)
    refine QRUN 2 5 7 [(1, .p 0 0), (3, .v (.string (bs (Lib.itoa q.from')))), (21, .v (.string (bs ((([106, 111, 105, 110, 32]) ++ (Lib.itoa q.id)) ++ ([32]))))), (23, I q.cabin)] ?_ rfl ?_
    · as_aux_lemma => kernel_rfl
    have hr6 := itoa_len (n := q.cabin) (by first | assumption | exact wr_range _ | (unfold i64R at *; omega) | (simp only [i64R] at *; omega))
    refine QCALL 22 #[vi q.cabin] (some 24) ?_ (.string (bs (Lib.itoa q.cabin))) (fun w hw => iDigits_c w q.cabin (by first | assumption | exact wr_range _ | (unfold i64R at *; omega) | (simp only [i64R] at *; omega)) (htab.fr hw.fr)) (NO rfl) ?_
    · as_aux_lemma => kernel_rfl
    refine QRUNV (.binOp .add 9 (.tmp 21) (.tmp 24) 9) 25 9 ?_ (NL rfl) (.string (bs (((([106, 111, 105, 110, 32]) ++ (Lib.itoa q.id)) ++ ([32])) ++ (Lib.itoa q.cabin)))) (runs_scat (a := (([106, 111, 105, 110, 32]) ++ (Lib.itoa q.id)) ++ ([32])) (b := Lib.itoa q.cabin) ?_ ?_ (by first | omega | (simp only [List.length_append, List.length_cons, List.length_nil, List.length_take, List.length_drop] at *; omega))) ?_
    iterate 3 (as_aux_lemma => kernel_rfl)
    refine QRUNV (.binOp .add 9 (.tmp 25) (.const (.string (bs ([32])))) 9) 26 9 ?_ (NL rfl) (.string (bs ((((([106, 111, 105, 110, 32]) ++ (Lib.itoa q.id)) ++ ([32])) ++ (Lib.itoa q.cabin)) ++ ([32])))) (runs_scat (a := ((([106, 111, 105, 110, 32]) ++ (Lib.itoa q.id)) ++ ([32])) ++ (Lib.itoa q.cabin)) (b := [32]) ?_ ?_ (by first | omega | (simp only [List.length_append, List.length_cons, List.length_nil, List.length_take, List.length_drop] at *; omega))) ?_
    iterate 3 (as_aux_lemma => kernel_rfl)
    refine QRUN 1 10 11 [(1, .p 0 0), (26, .v (.string (bs ((((([106, 111, 105, 110, 32]) ++ (Lib.itoa q.id)) ++ ([32])) ++ (Lib.itoa q.cabin)) ++ ([32]))))), (27, .v (.string (bs (Lib.itoa q.from'))))] ?_ rfl ?_
    · as_aux_lemma => kernel_rfl
    refine QRUNV (.binOp .add 9 (.tmp 26) (.tmp 27) 9) 28 9 ?_ (NL rfl) (.string (bs (((((([106, 111, 105, 110, 32]) ++ (Lib.itoa q.id)) ++ ([32])) ++ (Lib.itoa q.cabin)) ++ ([32])) ++ (Lib.itoa q.from')))) (runs_scat (a := (((([106, 111, 105, 110, 32]) ++ (Lib.itoa q.id)) ++ ([32])) ++ (Lib.itoa q.cabin)) ++ ([32])) (b := Lib.itoa q.from') ?_ ?_ (by first | omega | (simp only [List.length_append, List.length_cons, List.length_nil, List.length_take, List.length_drop] at *; omega))) ?_
    iterate 3 (as_aux_lemma => kernel_rfl)
    refine QRUNV (.binOp .add 9 (.tmp 28) (.const (.string (bs ([32])))) 9) 29 9 ?_ (NL rfl) (.string (bs ((((((([106, 111, 105, 110, 32]) ++ (Lib.itoa q.id)) ++ ([32])) ++ (Lib.itoa q.cabin)) ++ ([32])) ++ (Lib.itoa q.from')) ++ ([32])))) (runs_scat (a := ((((([106, 111, 105, 110, 32]) ++ (Lib.itoa q.id)) ++ ([32])) ++ (Lib.itoa q.cabin)) ++ ([32])) ++ (Lib.itoa q.from')) (b := [32]) ?_ ?_ (by first | omega | (simp only [List.length_append, List.length_cons, List.length_nil, List.length_take, List.length_drop] at *; omega))) ?_
    iterate 3 (as_aux_lemma => kernel_rfl)
    refine QRUN 2 13 15 [(1, .p 0 0), (29, .v (.string (bs ((((((([106, 111, 105, 110, 32]) ++ (Lib.itoa q.id)) ++ ([32])) ++ (Lib.itoa q.cabin)) ++ ([32])) ++ (Lib.itoa q.from')) ++ ([32]))))), (31, I q.size)] ?_ rfl ?_
    · as_aux_lemma => kernel_rfl
    have hr7 := itoa_len (n := q.size) (by first | assumption | exact wr_range _ | (unfold i64R at *; omega) | (simp only [i64R] at *; omega))
    refine QCALL 22 #[vi q.size] (some 32) ?_ (.string (bs (Lib.itoa q.size))) (fun w hw => iDigits_c w q.size (by first | assumption | exact wr_range _ | (unfold i64R at *; omega) | (simp only [i64R] at *; omega)) (htab.fr hw.fr)) (NO rfl) ?_
    · as_aux_lemma => kernel_rfl
    refine QRUNV (.binOp .add 9 (.tmp 29) (.tmp 32) 9) 33 9 ?_ (NL rfl) (.string (bs (((((((([106, 111, 105, 110, 32]) ++ (Lib.itoa q.id)) ++ ([32])) ++ (Lib.itoa q.cabin)) ++ ([32])) ++ (Lib.itoa q.from')) ++ ([32])) ++ (Lib.itoa q.size)))) (runs_scat (a := (((((([106, 111, 105, 110, 32]) ++ (Lib.itoa q.id)) ++ ([32])) ++ (Lib.itoa q.cabin)) ++ ([32])) ++ (Lib.itoa q.from')) ++ ([32])) (b := Lib.itoa q.size) ?_ ?_ (by first | omega | (simp only [List.length_append, List.length_cons, List.length_nil, List.length_take, List.length_drop] at *; omega))) ?_
    iterate 3 (as_aux_lemma => kernel_rfl)
    refine QRUNV (.binOp .add 9 (.tmp 33) (.const (.string (bs ([32])))) 9) 34 9 ?_ (NL rfl) (.string (bs ((((((((([106, 111, 105, 110, 32]) ++ (Lib.itoa q.id)) ++ ([32])) ++ (Lib.itoa q.cabin)) ++ ([32])) ++ (Lib.itoa q.from')) ++ ([32])) ++ (Lib.itoa q.size)) ++ ([32])))) (runs_scat (a := ((((((([106, 111, 105, 110, 32]) ++ (Lib.itoa q.id)) ++ ([32])) ++ (Lib.itoa q.cabin)) ++ ([32])) ++ (Lib.itoa q.from')) ++ ([32])) ++ (Lib.itoa q.size)) (b := [32]) ?_ ?_ (by first | omega | (simp only [List.length_append, List.length_cons, List.length_nil, List.length_take, List.length_drop] at *; omega))) ?_
    iterate 3 (as_aux_lemma => kernel_rfl)
    refine QRUN 2 18 20 [(34, .v (.string (bs ((((((((([106, 111, 105, 110, 32]) ++ (Lib.itoa q.id)) ++ ([32])) ++ (Lib.itoa q.cabin)) ++ ([32])) ++ (Lib.itoa q.from')) ++ ([32])) ++ (Lib.itoa q.size)) ++ ([32]))))), (36, I q.tier)] ?_ rfl ?_
    · as_aux_lemma => kernel_rfl
    have hr8 := itoa_len (n := q.tier) (by first | assumption | exact wr_range _ | (unfold i64R at *; omega) | (simp only [i64R] at *; omega))
    refine QCALL 22 #[vi q.tier] (some 37) ?_ (.string (bs (Lib.itoa q.tier))) (fun w hw => iDigits_c w q.tier (by first | assumption | exact wr_range _ | (unfold i64R at *; omega) | (simp only [i64R] at *; omega)) (htab.fr hw.fr)) (NO rfl) ?_
    · as_aux_lemma => kernel_rfl
    refine QRUNV (.binOp .add 9 (.tmp 34) (.tmp 37) 9) 38 9 ?_ (NL rfl) (.string (bs (((((((((([106, 111, 105, 110, 32]) ++ (Lib.itoa q.id)) ++ ([32])) ++ (Lib.itoa q.cabin)) ++ ([32])) ++ (Lib.itoa q.from')) ++ ([32])) ++ (Lib.itoa q.size)) ++ ([32])) ++ (Lib.itoa q.tier)))) (runs_scat (a := (((((((([106, 111, 105, 110, 32]) ++ (Lib.itoa q.id)) ++ ([32])) ++ (Lib.itoa q.cabin)) ++ ([32])) ++ (Lib.itoa q.from')) ++ ([32])) ++ (Lib.itoa q.size)) ++ ([32])) (b := Lib.itoa q.tier) ?_ ?_ (by first | omega | (simp only [List.length_append, List.length_cons, List.length_nil, List.length_take, List.length_drop] at *; omega))) ?_
    iterate 3 (as_aux_lemma => kernel_rfl)
    refine QRUN 1 22 23 [(2, .v (.string (bs (((((((((([106, 111, 105, 110, 32]) ++ (Lib.itoa q.id)) ++ ([32])) ++ (Lib.itoa q.cabin)) ++ ([32])) ++ (Lib.itoa q.from')) ++ ([32])) ++ (Lib.itoa q.size)) ++ ([32])) ++ (Lib.itoa q.tier)))))] ?_ rfl ?_
    · as_aux_lemma => kernel_rfl
    refine QEND rfl (NEXT (RET (OUTR (PASS trivial (FIN (.string (bs (((((((((([106, 111, 105, 110, 32]) ++ (Lib.itoa q.id)) ++ ([32])) ++ (Lib.itoa q.cabin)) ++ ([32])) ++ (Lib.itoa q.from')) ++ ([32])) ++ (Lib.itoa q.size)) ++ ([32])) ++ (Lib.itoa q.tier)))) ?_ () ?_ [] ?_)))))
    · as_aux_lemma => kernel_rfl
    · (first | (simp [RV, reqLine, reqWord, reqWords, *]; done) | (have h7 : q.kind = 7 := (by omega); simp [RV, reqLine, reqWord, reqWords, *]; done) | (have h9 : ¬ q.from' = -1 := (by omega); simp [RV, reqLine, reqWord, reqWords, *]; done) | (have h9 : q.from' = -1 := (by omega); simp [RV, reqLine, reqWord, reqWords, *]))
    · rfl
   ·
    have h3 := bh3
    have h3 := bneF h3
    refine SKIP (NEXT (SEQ (REGIONQ ?_ ?_ ?_)))
    iterate 2 (as_aux_lemma => kernel_rfl)
    refine QRUN 2 0 2 [(1, .p 0 0), (3, .v (.string (bs ([45])))), (18, I q.id)] ?_ rfl ?_
    · as_aux_lemma => kernel_rfl
    have hr9 := itoa_len (n := q.id) (by first | assumption | exact wr_range _ | (unfold i64R at *; omega) | (simp only [i64R] at *; omega))
    refine QCALL 22 #[vi q.id] (some 19) ?_ (.string (bs (Lib.itoa q.id))) (fun w hw => iDigits_c w q.id (by first | assumption | exact wr_range _ | (unfold i64R at *; omega) | (simp only [i64R] at *; omega)) (htab.fr hw.fr)) (NO rfl) ?_
    · as_aux_lemma => kernel_rfl
    refine QRUNV (.binOp .add 9 (.const (.string (bs ([106, 111, 105, 110, 32])))) (.tmp 19) 9) 20 9 ?_ (NL rfl) (.string (bs (([106, 111, 105, 110, 32]) ++ (Lib.itoa q.id)))) (runs_scat (a := [106, 111, 105, 110, 32]) (b := Lib.itoa q.id) ?_ ?_ (by first | omega | (simp only [List.length_append, List.length_cons, List.length_nil, List.length_take, List.length_drop] at *; omega))) ?_
    iterate 3 (as_aux_lemma => kernel_rfl)
    refine QRUNV (.binOp .add 9 (.tmp 20) (.const (.string (bs ([32])))) 9) 21 9 ?_ (NL rfl) (.string (bs ((([106, 111, 105, 110, 32]) ++ (Lib.itoa q.id)) ++ ([32])))) (runs_scat (a := ([106, 111, 105, 110, 32]) ++ (Lib.itoa q.id)) (b := [32]) ?_ ?_ (by first | omega | (simp only [List.length_append, List.length_cons, List.length_nil, List.length_take, List.length_drop] at *; omega))) ?_
    iterate 3 (as_aux_lemma => kernel_rfl)
    refine QRUN 2 5 7 [(1, .p 0 0), (3, .v (.string (bs ([45])))), (21, .v (.string (bs ((([106, 111, 105, 110, 32]) ++ (Lib.itoa q.id)) ++ ([32]))))), (23, I q.cabin)] ?_ rfl ?_
    · as_aux_lemma => kernel_rfl
    have hr10 := itoa_len (n := q.cabin) (by first | assumption | exact wr_range _ | (unfold i64R at *; omega) | (simp only [i64R] at *; omega))
    refine QCALL 22 #[vi q.cabin] (some 24) ?_ (.string (bs (Lib.itoa q.cabin))) (fun w hw => iDigits_c w q.cabin (by first | assumption | exact wr_range _ | (unfold i64R at *; omega) | (simp only [i64R] at *; omega)) (htab.fr hw.fr)) (NO rfl) ?_
    · as_aux_lemma => kernel_rfl
    refine QRUNV (.binOp .add 9 (.tmp 21) (.tmp 24) 9) 25 9 ?_ (NL rfl) (.string (bs (((([106, 111, 105, 110, 32]) ++ (Lib.itoa q.id)) ++ ([32])) ++ (Lib.itoa q.cabin)))) (runs_scat (a := (([106, 111, 105, 110, 32]) ++ (Lib.itoa q.id)) ++ ([32])) (b := Lib.itoa q.cabin) ?_ ?_ (by first | omega | (simp only [List.length_append, List.length_cons, List.length_nil, List.length_take, List.length_drop] at *; omega))) ?_
    iterate 3 (as_aux_lemma => kernel_rfl)
    refine QRUNV (.binOp .add 9 (.tmp 25) (.const (.string (bs ([32])))) 9) 26 9 ?_ (NL rfl) (.string (bs ((((([106, 111, 105, 110, 32]) ++ (Lib.itoa q.id)) ++ ([32])) ++ (Lib.itoa q.cabin)) ++ ([32])))) (runs_scat (a := ((([106, 111, 105, 110, 32]) ++ (Lib.itoa q.id)) ++ ([32])) ++ (Lib.itoa q.cabin)) (b := [32]) ?_ ?_ (by first | omega | (simp only [List.length_append, List.length_cons, List.length_nil, List.length_take, List.length_drop] at *; omega))) ?_
    iterate 3 (as_aux_lemma => kernel_rfl)
    refine QRUN 1 10 11 [(1, .p 0 0), (26, .v (.string (bs ((((([106, 111, 105, 110, 32]) ++ (Lib.itoa q.id)) ++ ([32])) ++ (Lib.itoa q.cabin)) ++ ([32]))))), (27, .v (.string (bs ([45]))))] ?_ rfl ?_
    · as_aux_lemma => kernel_rfl
    refine QRUNV (.binOp .add 9 (.tmp 26) (.tmp 27) 9) 28 9 ?_ (NL rfl) (.string (bs (((((([106, 111, 105, 110, 32]) ++ (Lib.itoa q.id)) ++ ([32])) ++ (Lib.itoa q.cabin)) ++ ([32])) ++ ([45])))) (runs_scat (a := (((([106, 111, 105, 110, 32]) ++ (Lib.itoa q.id)) ++ ([32])) ++ (Lib.itoa q.cabin)) ++ ([32])) (b := [45]) ?_ ?_ (by first | omega | (simp only [List.length_append, List.length_cons, List.length_nil, List.length_take, List.length_drop] at *; omega))) ?_
    iterate 3 (as_aux_lemma => kernel_rfl)
    refine QRUNV (.binOp .add 9 (.tmp 28) (.const (.string (bs ([32])))) 9) 29 9 ?_ (NL rfl) (.string (bs ((((((([106, 111, 105, 110, 32]) ++ (Lib.itoa q.id)) ++ ([32])) ++ (Lib.itoa q.cabin)) ++ ([32])) ++ ([45])) ++ ([32])))) (runs_scat (a := ((((([106, 111, 105, 110, 32]) ++ (Lib.itoa q.id)) ++ ([32])) ++ (Lib.itoa q.cabin)) ++ ([32])) ++ ([45])) (b := [32]) ?_ ?_ (by first | omega | (simp only [List.length_append, List.length_cons, List.length_nil, List.length_take, List.length_drop] at *; omega))) ?_
    iterate 3 (as_aux_lemma => kernel_rfl)
    refine QRUN 2 13 15 [(1, .p 0 0), (29, .v (.string (bs ((((((([106, 111, 105, 110, 32]) ++ (Lib.itoa q.id)) ++ ([32])) ++ (Lib.itoa q.cabin)) ++ ([32])) ++ ([45])) ++ ([32]))))), (31, I q.size)] ?_ rfl ?_
    · as_aux_lemma => kernel_rfl
    have hr11 := itoa_len (n := q.size) (by first | assumption | exact wr_range _ | (unfold i64R at *; omega) | (simp only [i64R] at *; omega))
    refine QCALL 22 #[vi q.size] (some 32) ?_ (.string (bs (Lib.itoa q.size))) (fun w hw => iDigits_c w q.size (by first | assumption | exact wr_range _ | (unfold i64R at *; omega) | (simp only [i64R] at *; omega)) (htab.fr hw.fr)) (NO rfl) ?_
    · as_aux_lemma => kernel_rfl
    refine QRUNV (.binOp .add 9 (.tmp 29) (.tmp 32) 9) 33 9 ?_ (NL rfl) (.string (bs (((((((([106, 111, 105, 110, 32]) ++ (Lib.itoa q.id)) ++ ([32])) ++ (Lib.itoa q.cabin)) ++ ([32])) ++ ([45])) ++ ([32])) ++ (Lib.itoa q.size)))) (runs_scat (a := (((((([106, 111, 105, 110, 32]) ++ (Lib.itoa q.id)) ++ ([32])) ++ (Lib.itoa q.cabin)) ++ ([32])) ++ ([45])) ++ ([32])) (b := Lib.itoa q.size) ?_ ?_ (by first | omega | (simp only [List.length_append, List.length_cons, List.length_nil, List.length_take, List.length_drop] at *; omega))) ?_
    iterate 3 (as_aux_lemma => kernel_rfl)
    refine QRUNV (.binOp .add 9 (.tmp 33) (.const (.string (bs ([32])))) 9) 34 9 ?_ (NL rfl) (.string (bs ((((((((([106, 111, 105, 110, 32]) ++ (Lib.itoa q.id)) ++ ([32])) ++ (Lib.itoa q.cabin)) ++ ([32])) ++ ([45])) ++ ([32])) ++ (Lib.itoa q.size)) ++ ([32])))) (runs_scat (a := ((((((([106, 111, 105, 110, 32]) ++ (Lib.itoa q.id)) ++ ([32])) ++ (Lib.itoa q.cabin)) ++ ([32])) ++ ([45])) ++ ([32])) ++ (Lib.itoa q.size)) (b := [32]) ?_ ?_ (by first | omega | (simp only [List.length_append, List.length_cons, List.length_nil, List.length_take, List.length_drop] at *; omega))) ?_
    iterate 3 (as_aux_lemma => kernel_rfl)
    refine QRUN 2 18 20 [(34, .v (.string (bs ((((((((([106, 111, 105, 110, 32]) ++ (Lib.itoa q.id)) ++ ([32])) ++ (Lib.itoa q.cabin)) ++ ([32])) ++ ([45])) ++ ([32])) ++ (Lib.itoa q.size)) ++ ([32]))))), (36, I q.tier)] ?_ rfl ?_
    · as_aux_lemma => kernel_rfl
    have hr12 := itoa_len (n := q.tier) (by first | assumption | exact wr_range _ | (unfold i64R at *; omega) | (simp only [i64R] at *; omega))
    refine QCALL 22 #[vi q.tier] (some 37) ?_ (.string (bs (Lib.itoa q.tier))) (fun w hw => iDigits_c w q.tier (by first | assumption | exact wr_range _ | (unfold i64R at *; omega) | (simp only [i64R] at *; omega)) (htab.fr hw.fr)) (NO rfl) ?_
    · as_aux_lemma => kernel_rfl
    refine QRUNV (.binOp .add 9 (.tmp 34) (.tmp 37) 9) 38 9 ?_ (NL rfl) (.string (bs (((((((((([106, 111, 105, 110, 32]) ++ (Lib.itoa q.id)) ++ ([32])) ++ (Lib.itoa q.cabin)) ++ ([32])) ++ ([45])) ++ ([32])) ++ (Lib.itoa q.size)) ++ ([32])) ++ (Lib.itoa q.tier)))) (runs_scat (a := (((((((([106, 111, 105, 110, 32]) ++ (Lib.itoa q.id)) ++ ([32])) ++ (Lib.itoa q.cabin)) ++ ([32])) ++ ([45])) ++ ([32])) ++ (Lib.itoa q.size)) ++ ([32])) (b := Lib.itoa q.tier) ?_ ?_ (by first | omega | (simp only [List.length_append, List.length_cons, List.length_nil, List.length_take, List.length_drop] at *; omega))) ?_
    iterate 3 (as_aux_lemma => kernel_rfl)
    refine QRUN 1 22 23 [(2, .v (.string (bs (((((((((([106, 111, 105, 110, 32]) ++ (Lib.itoa q.id)) ++ ([32])) ++ (Lib.itoa q.cabin)) ++ ([32])) ++ ([45])) ++ ([32])) ++ (Lib.itoa q.size)) ++ ([32])) ++ (Lib.itoa q.tier)))))] ?_ rfl ?_
    · as_aux_lemma => kernel_rfl
    refine QEND rfl (NEXT (RET (OUTR (PASS trivial (FIN (.string (bs (((((((((([106, 111, 105, 110, 32]) ++ (Lib.itoa q.id)) ++ ([32])) ++ (Lib.itoa q.cabin)) ++ ([32])) ++ ([45])) ++ ([32])) ++ (Lib.itoa q.size)) ++ ([32])) ++ (Lib.itoa q.tier)))) ?_ () ?_ [] ?_)))))
    · as_aux_lemma => kernel_rfl
    · (first | (simp [RV, reqLine, reqWord, reqWords, *]; done) | (have h7 : q.kind = 7 := (by omega); simp [RV, reqLine, reqWord, reqWords, *]; done) | (have h9 : ¬ q.from' = -1 := (by omega); simp [RV, reqLine, reqWord, reqWords, *]; done) | (have h9 : q.from' = -1 := (by omega); simp [RV, reqLine, reqWord, reqWords, *]))
    · rfl
  ·
   have h2 := bh2
   have h2 := ne_of_beq_false h2
   refine SEQ (REGION [0, 1] rfl (RUN0 2 [] [(1, .p 0 0), (8, I q.kind), (39, B (q.kind == 2))] ?_ rfl ?_))
   · as_aux_lemma => kernel_rfl
   refine ENDOPS (NEXT (IF (q.kind == 2) ?_ (fun bh13 => ?_) (fun bh13 => ?_)))
   · as_aux_lemma => kernel_rfl
   ·
    have h13 := bh13
    have h13 := eq_of_beq h13
    refine SEQ (REGION [0, 1, 2, 3, 4] rfl (RUN0 2 [2, 3, 4] [(42, I q.id)] ?_ rfl ?_))
    · as_aux_lemma => kernel_rfl
    refine OPC (CALL 22 #[vi q.id] (some 43) ?_ [] [] _ rfl (RV (.string (bs (Lib.itoa q.id)))) (fun w hw => iDigits_c w q.id (by first | assumption | exact wr_range _ | (unfold i64R at *; omega) | (simp only [i64R] at *; omega)) (htab.fr hw.fr)) (NO rfl) ?_)
    · as_aux_lemma => kernel_rfl
    rintro ⟨⟩
    have hr14 := itoa_len (n := q.id) (by first | assumption | exact wr_range _ | (unfold i64R at *; omega) | (simp only [i64R] at *; omega))
    refine OPC (RUNV (.binOp .add 9 (.const (.string (bs ([99, 97, 110, 99, 101, 108, 32])))) (.tmp 43) 9) 44 9 ?_ (NL rfl) (.string (bs (([99, 97, 110, 99, 101, 108, 32]) ++ (Lib.itoa q.id)))) (runs_scat (a := [99, 97, 110, 99, 101, 108, 32]) (b := Lib.itoa q.id) ?_ ?_ (by first | omega | (simp only [List.length_append, List.length_cons, List.length_nil, List.length_take, List.length_drop] at *; omega))) ?_)
    iterate 3 (as_aux_lemma => kernel_rfl)
    refine RUN0 1 [] [(2, .v (.string (bs (([99, 97, 110, 99, 101, 108, 32]) ++ (Lib.itoa q.id)))))] ?_ rfl ?_
    · as_aux_lemma => kernel_rfl
    refine ENDOPS (NEXT (RET (OUTR (PASS trivial (FIN (.string (bs (([99, 97, 110, 99, 101, 108, 32]) ++ (Lib.itoa q.id)))) ?_ () ?_ [] ?_)))))
    · as_aux_lemma => kernel_rfl
    · (first | (simp [RV, reqLine, reqWord, reqWords, *]; done) | (have h7 : q.kind = 7 := (by omega); simp [RV, reqLine, reqWord, reqWords, *]; done) | (have h9 : ¬ q.from' = -1 := (by omega); simp [RV, reqLine, reqWord, reqWords, *]; done) | (have h9 : q.from' = -1 := (by omega); simp [RV, reqLine, reqWord, reqWords, *]))
    · rfl
   ·
    have h13 := bh13
    have h13 := ne_of_beq_false h13
    refine SEQ (REGION [0, 1] rfl (RUN0 2 [] [(1, .p 0 0), (8, I q.kind), (45, B (q.kind == 3))] ?_ rfl ?_))
    · as_aux_lemma => kernel_rfl
    refine ENDOPS (NEXT (IF (q.kind == 3) ?_ (fun bh15 => ?_) (fun bh15 => ?_)))
    · as_aux_lemma => kernel_rfl
    ·
     have h15 := bh15
     have h15 := eq_of_beq h15
     refine SEQ (REGIONQ ?_ ?_ ?_)
     iterate 2 (as_aux_lemma => kernel_rfl)
     refine QRUN 2 0 2 [(1, .p 0 0), (48, I q.cabin)] ?_ rfl ?_
     · as_aux_lemma => kernel_rfl
     have hr16 := itoa_len (n := q.cabin) (by first | assumption | exact wr_range _ | (unfold i64R at *; omega) | (simp only [i64R] at *; omega))
     refine QCALL 22 #[vi q.cabin] (some 49) ?_ (.string (bs (Lib.itoa q.cabin))) (fun w hw => iDigits_c w q.cabin (by first | assumption | exact wr_range _ | (unfold i64R at *; omega) | (simp only [i64R] at *; omega)) (htab.fr hw.fr)) (NO rfl) ?_
     · as_aux_lemma => kernel_rfl
     refine QRUNV (.binOp .add 9 (.const (.string (bs ([102, 114, 101, 101, 32])))) (.tmp 49) 9) 50 9 ?_ (NL rfl) (.string (bs (([102, 114, 101, 101, 32]) ++ (Lib.itoa q.cabin)))) (runs_scat (a := [102, 114, 101, 101, 32]) (b := Lib.itoa q.cabin) ?_ ?_ (by first | omega | (simp only [List.length_append, List.length_cons, List.length_nil, List.length_take, List.length_drop] at *; omega))) ?_
     iterate 3 (as_aux_lemma => kernel_rfl)
     refine QRUNV (.binOp .add 9 (.tmp 50) (.const (.string (bs ([32])))) 9) 51 9 ?_ (NL rfl) (.string (bs ((([102, 114, 101, 101, 32]) ++ (Lib.itoa q.cabin)) ++ ([32])))) (runs_scat (a := ([102, 114, 101, 101, 32]) ++ (Lib.itoa q.cabin)) (b := [32]) ?_ ?_ (by first | omega | (simp only [List.length_append, List.length_cons, List.length_nil, List.length_take, List.length_drop] at *; omega))) ?_
     iterate 3 (as_aux_lemma => kernel_rfl)
     refine QRUN 2 5 7 [(51, .v (.string (bs ((([102, 114, 101, 101, 32]) ++ (Lib.itoa q.cabin)) ++ ([32]))))), (53, I q.size)] ?_ rfl ?_
     · as_aux_lemma => kernel_rfl
     have hr17 := itoa_len (n := q.size) (by first | assumption | exact wr_range _ | (unfold i64R at *; omega) | (simp only [i64R] at *; omega))
     refine QCALL 22 #[vi q.size] (some 54) ?_ (.string (bs (Lib.itoa q.size))) (fun w hw => iDigits_c w q.size (by first | assumption | exact wr_range _ | (unfold i64R at *; omega) | (simp only [i64R] at *; omega)) (htab.fr hw.fr)) (NO rfl) ?_
     · as_aux_lemma => kernel_rfl
     refine QRUNV (.binOp .add 9 (.tmp 51) (.tmp 54) 9) 55 9 ?_ (NL rfl) (.string (bs (((([102, 114, 101, 101, 32]) ++ (Lib.itoa q.cabin)) ++ ([32])) ++ (Lib.itoa q.size)))) (runs_scat (a := (([102, 114, 101, 101, 32]) ++ (Lib.itoa q.cabin)) ++ ([32])) (b := Lib.itoa q.size) ?_ ?_ (by first | omega | (simp only [List.length_append, List.length_cons, List.length_nil, List.length_take, List.length_drop] at *; omega))) ?_
     iterate 3 (as_aux_lemma => kernel_rfl)
     refine QRUN 1 9 10 [(2, .v (.string (bs (((([102, 114, 101, 101, 32]) ++ (Lib.itoa q.cabin)) ++ ([32])) ++ (Lib.itoa q.size)))))] ?_ rfl ?_
     · as_aux_lemma => kernel_rfl
     refine QEND rfl (NEXT (RET (OUTR (PASS trivial (FIN (.string (bs (((([102, 114, 101, 101, 32]) ++ (Lib.itoa q.cabin)) ++ ([32])) ++ (Lib.itoa q.size)))) ?_ () ?_ [] ?_)))))
     · as_aux_lemma => kernel_rfl
     · (first | (simp [RV, reqLine, reqWord, reqWords, *]; done) | (have h7 : q.kind = 7 := (by omega); simp [RV, reqLine, reqWord, reqWords, *]; done) | (have h9 : ¬ q.from' = -1 := (by omega); simp [RV, reqLine, reqWord, reqWords, *]; done) | (have h9 : q.from' = -1 := (by omega); simp [RV, reqLine, reqWord, reqWords, *]))
     · rfl
    ·
     have h15 := bh15
     have h15 := ne_of_beq_false h15
     refine SEQ (REGION [0, 1] rfl (RUN0 2 [] [(1, .p 0 0), (8, I q.kind), (56, B (q.kind == 4))] ?_ rfl ?_))
     · as_aux_lemma => kernel_rfl
     refine ENDOPS (NEXT (IF (q.kind == 4) ?_ (fun bh18 => ?_) (fun bh18 => ?_)))
     · as_aux_lemma => kernel_rfl
     ·
      have h18 := bh18
      have h18 := eq_of_beq h18
      refine SEQ (REGION [0, 1, 2, 3, 4] rfl (RUN0 2 [2, 3, 4] [(59, I q.id)] ?_ rfl ?_))
      · as_aux_lemma => kernel_rfl
      refine OPC (CALL 22 #[vi q.id] (some 60) ?_ [] [] _ rfl (RV (.string (bs (Lib.itoa q.id)))) (fun w hw => iDigits_c w q.id (by first | assumption | exact wr_range _ | (unfold i64R at *; omega) | (simp only [i64R] at *; omega)) (htab.fr hw.fr)) (NO rfl) ?_)
      · as_aux_lemma => kernel_rfl
      rintro ⟨⟩
      have hr19 := itoa_len (n := q.id) (by first | assumption | exact wr_range _ | (unfold i64R at *; omega) | (simp only [i64R] at *; omega))
      refine OPC (RUNV (.binOp .add 9 (.const (.string (bs ([97, 99, 99, 101, 112, 116, 32])))) (.tmp 60) 9) 61 9 ?_ (NL rfl) (.string (bs (([97, 99, 99, 101, 112, 116, 32]) ++ (Lib.itoa q.id)))) (runs_scat (a := [97, 99, 99, 101, 112, 116, 32]) (b := Lib.itoa q.id) ?_ ?_ (by first | omega | (simp only [List.length_append, List.length_cons, List.length_nil, List.length_take, List.length_drop] at *; omega))) ?_)
      iterate 3 (as_aux_lemma => kernel_rfl)
      refine RUN0 1 [] [(2, .v (.string (bs (([97, 99, 99, 101, 112, 116, 32]) ++ (Lib.itoa q.id)))))] ?_ rfl ?_
      · as_aux_lemma => kernel_rfl
      refine ENDOPS (NEXT (RET (OUTR (PASS trivial (FIN (.string (bs (([97, 99, 99, 101, 112, 116, 32]) ++ (Lib.itoa q.id)))) ?_ () ?_ [] ?_)))))
      · as_aux_lemma => kernel_rfl
      · (first | (simp [RV, reqLine, reqWord, reqWords, *]; done) | (have h7 : q.kind = 7 := (by omega); simp [RV, reqLine, reqWord, reqWords, *]; done) | (have h9 : ¬ q.from' = -1 := (by omega); simp [RV, reqLine, reqWord, reqWords, *]; done) | (have h9 : q.from' = -1 := (by omega); simp [RV, reqLine, reqWord, reqWords, *]))
      · rfl
     ·
      have h18 := bh18
      have h18 := ne_of_beq_false h18
      refine SEQ (REGION [0, 1] rfl (RUN0 2 [] [(1, .p 0 0), (8, I q.kind), (62, B (q.kind == 5))] ?_ rfl ?_))
      · as_aux_lemma => kernel_rfl
      refine ENDOPS (NEXT (IF (q.kind == 5) ?_ (fun bh20 => ?_) (fun bh20 => ?_)))
      · as_aux_lemma => kernel_rfl
      ·
       have h20 := bh20
       have h20 := eq_of_beq h20
       refine SEQ (REGION [0, 1, 2, 3, 4] rfl (RUN0 2 [2, 3, 4] [(65, I q.id)] ?_ rfl ?_))
       · as_aux_lemma => kernel_rfl
       refine OPC (CALL 22 #[vi q.id] (some 66) ?_ [] [] _ rfl (RV (.string (bs (Lib.itoa q.id)))) (fun w hw => iDigits_c w q.id (by first | assumption | exact wr_range _ | (unfold i64R at *; omega) | (simp only [i64R] at *; omega)) (htab.fr hw.fr)) (NO rfl) ?_)
       · as_aux_lemma => kernel_rfl
       rintro ⟨⟩
       have hr21 := itoa_len (n := q.id) (by first | assumption | exact wr_range _ | (unfold i64R at *; omega) | (simp only [i64R] at *; omega))
       refine OPC (RUNV (.binOp .add 9 (.const (.string (bs ([100, 101, 99, 108, 105, 110, 101, 32])))) (.tmp 66) 9) 67 9 ?_ (NL rfl) (.string (bs (([100, 101, 99, 108, 105, 110, 101, 32]) ++ (Lib.itoa q.id)))) (runs_scat (a := [100, 101, 99, 108, 105, 110, 101, 32]) (b := Lib.itoa q.id) ?_ ?_ (by first | omega | (simp only [List.length_append, List.length_cons, List.length_nil, List.length_take, List.length_drop] at *; omega))) ?_)
       iterate 3 (as_aux_lemma => kernel_rfl)
       refine RUN0 1 [] [(2, .v (.string (bs (([100, 101, 99, 108, 105, 110, 101, 32]) ++ (Lib.itoa q.id)))))] ?_ rfl ?_
       · as_aux_lemma => kernel_rfl
       refine ENDOPS (NEXT (RET (OUTR (PASS trivial (FIN (.string (bs (([100, 101, 99, 108, 105, 110, 101, 32]) ++ (Lib.itoa q.id)))) ?_ () ?_ [] ?_)))))
       · as_aux_lemma => kernel_rfl
       · (first | (simp [RV, reqLine, reqWord, reqWords, *]; done) | (have h7 : q.kind = 7 := (by omega); simp [RV, reqLine, reqWord, reqWords, *]; done) | (have h9 : ¬ q.from' = -1 := (by omega); simp [RV, reqLine, reqWord, reqWords, *]; done) | (have h9 : q.from' = -1 := (by omega); simp [RV, reqLine, reqWord, reqWords, *]))
       · rfl
      ·
       have h20 := bh20
       have h20 := ne_of_beq_false h20
       refine SEQ (REGION [0, 1] rfl (RUN0 2 [] [(1, .p 0 0), (68, B (q.kind == 6))] ?_ rfl ?_))
       · as_aux_lemma => kernel_rfl
       refine ENDOPS (NEXT (IF (q.kind == 6) ?_ (fun bh22 => ?_) (fun bh22 => ?_)))
       · as_aux_lemma => kernel_rfl
       ·
        have h22 := bh22
        have h22 := eq_of_beq h22
        refine SEQ (REGION [0] rfl (RUN0 1 [] [(2, .v (.string (bs ([116, 105, 99, 107]))))] ?_ rfl ?_))
        · as_aux_lemma => kernel_rfl
        refine ENDOPS (NEXT (RET (OUTR (PASS trivial (FIN (.string (bs ([116, 105, 99, 107]))) ?_ () ?_ [] ?_)))))
        · as_aux_lemma => kernel_rfl
        · (first | (simp [RV, reqLine, reqWord, reqWords, *]; done) | (have h7 : q.kind = 7 := (by omega); simp [RV, reqLine, reqWord, reqWords, *]; done) | (have h9 : ¬ q.from' = -1 := (by omega); simp [RV, reqLine, reqWord, reqWords, *]; done) | (have h9 : q.from' = -1 := (by omega); simp [RV, reqLine, reqWord, reqWords, *]))
        · rfl
       ·
        have h22 := bh22
        have h22 := ne_of_beq_false h22
        refine SKIP (OUTN (NEXT (SEQ (REGION [0, 1, 2, 3, 4] rfl (RUN0 2 [2, 3, 4] [(71, I q.id)] ?_ rfl ?_)))))
        · as_aux_lemma => kernel_rfl
        refine OPC (CALL 22 #[vi q.id] (some 72) ?_ [] [] _ rfl (RV (.string (bs (Lib.itoa q.id)))) (fun w hw => iDigits_c w q.id (by first | assumption | exact wr_range _ | (unfold i64R at *; omega) | (simp only [i64R] at *; omega)) (htab.fr hw.fr)) (NO rfl) ?_)
        · as_aux_lemma => kernel_rfl
        rintro ⟨⟩
        have hr23 := itoa_len (n := q.id) (by first | assumption | exact wr_range _ | (unfold i64R at *; omega) | (simp only [i64R] at *; omega))
        refine OPC (RUNV (.binOp .add 9 (.const (.string (bs ([112, 105, 99, 107, 32])))) (.tmp 72) 9) 73 9 ?_ (NL rfl) (.string (bs (([112, 105, 99, 107, 32]) ++ (Lib.itoa q.id)))) (runs_scat (a := [112, 105, 99, 107, 32]) (b := Lib.itoa q.id) ?_ ?_ (by first | omega | (simp only [List.length_append, List.length_cons, List.length_nil, List.length_take, List.length_drop] at *; omega))) ?_)
        iterate 3 (as_aux_lemma => kernel_rfl)
        refine RUN0 1 [] [(2, .v (.string (bs (([112, 105, 99, 107, 32]) ++ (Lib.itoa q.id)))))] ?_ rfl ?_
        · as_aux_lemma => kernel_rfl
        refine ENDOPS (NEXT (RET (FIN (.string (bs (([112, 105, 99, 107, 32]) ++ (Lib.itoa q.id)))) ?_ () ?_ [] ?_)))
        · as_aux_lemma => kernel_rfl
        · (first | (simp [RV, reqLine, reqWord, reqWords, *]; done) | (have h7 : q.kind = 7 := (by omega); simp [RV, reqLine, reqWord, reqWords, *]; done) | (have h9 : ¬ q.from' = -1 := (by omega); simp [RV, reqLine, reqWord, reqWords, *]; done) | (have h9 : q.from' = -1 := (by omega); simp [RV, reqLine, reqWord, reqWords, *]))
        · rfl

theorem join_c (W : World) (xs : List (List UInt8)) (xs_a : Option Addr) (xs_c : Nat) (hxs : Rd strL W xs_a xs) (sep : List UInt8) (hc : xs.length ≤ xs_c) (hl : (Lib.join xs sep).length ≤ 140737488355328) (hn : xs.length ≤ 140737488355328) : Spec Tryz.prog W [] 18 #[.slice xs_a xs.length xs_c, .string (bs sep)] (RV (.string (bs (Lib.join xs sep)))) := Spec.joined hxs hc hl hn (fun bk o c xs sep => Tryz.strings_Join bk o c xs sep W) (fun a c sep => Tryz.strings_Join_none a c sep W)

theorem sScriptText_c (W : World) (list : List Req) (list_a : Option Addr) (list_c : Nat) (hlist : Rd reqL W list_a list) : Spec Tryz.prog W [] 8 #[.slice list_a list.length list_c] (RV (.string (bs (scriptText list)))) := by
 refine ENTER0 (N := 33) (vs := [.slice list_a list.length list_c]) Tryz.func8 rfl rfl (NL rfl) ?_
 have hlist_len := hlist.len
 refine SEQ (REGION [0] rfl (RUN0 1 [] [(0, .v (.slice list_a list.length list_c))] ?_ rfl ?_))
 · as_aux_lemma => kernel_rfl
 refine ENDOPS (NEXT (SEQ (REGION [0, 1] rfl (OPC (BUILDS 22 0 #[] 6 22 ?_ (NL rfl) 5 [] ?_ byteL [] rfl (by simp only [maxLen]; omega) [] [] _ rfl (flatRep rfl) (fun a1 ha2 => ?_))))))
 iterate 2 (as_aux_lemma => kernel_rfl)
 refine RUN0 1 [] [(0, .v (.slice list_a list.length list_c)), (3, .v (.slice a1 0 0))] ?_ rfl ?_
 · as_aux_lemma => kernel_rfl
 refine ENDOPS (NEXT (SEQ (SEQ (REGION [0, 1, 2] rfl (RUN0 3 [] [(0, .v (.slice list_a list.length list_c)), (3, .v (.slice a1 0 0)), (9, B (decide ((list.length : Int) > 200)))] ?_ rfl ?_)))))
 · as_aux_lemma => kernel_rfl
 refine ENDOPS (NEXT (IF (decide ((list.length : Int) > 200)) ?_ (fun bh3 => ?_) (fun bh3 => ?_)))
 · as_aux_lemma => kernel_rfl
 ·
  have h3 := bh3
  have h3 := of_decide_eq_true h3
  have hB : 200 < list.length := by omega
  refine SEQ (REGION [0] rfl (RUN0 1 [] [(2, .v (.string (bs ([]))))] ?_ rfl ?_))
  · as_aux_lemma => kernel_rfl
  refine ENDOPS (NEXT (RET (PASS trivial (FIN (.string (bs ([]))) ?_ () ?_ [] ?_))))
  · as_aux_lemma => kernel_rfl
  · (first | (simp [RV, scriptText, *]; done) | (simp only [RV]; rw [scriptText, if_neg hB, hv0]; simp [scriptGo, *]))
  · rfl
 ·
  have h3 := bh3
  have h3 := of_decide_eq_false h3
  have hB : ¬ 200 < list.length := by omega
  refine SKIP (NEXT (SEQ (SEQ (REGION [0] rfl (RUN0 1 [] [(0, .v (.slice list_a list.length list_c)), (3, .v (.slice a1 0 0)), (4, I 0)] ?_ rfl ?_)))))
  · as_aux_lemma => kernel_rfl
  refine ENDOPS (NEXT (BLOCK (LOOP (ι := Nat × (List Req) × (Option Addr) × Nat × (List UInt8)) (fun j => [(0, .v (.slice list_a list.length list_c)), (3, .v (.slice j.2.2.1 j.2.2.2.2.length j.2.2.2.1)), (4, I (j.1 : Int))]) (fun j => []) (fun j => [slA 5 byteL (.slice j.2.2.1 j.2.2.2.2.length j.2.2.2.1) j.2.2.2.2]) (fun j => j.1 + j.2.1.length = list.length ∧ list.drop j.1 = j.2.1 ∧ scriptGo 0 [] list = scriptGo j.1 j.2.2.2.2 j.2.1 ∧ j.2.2.2.2.length ≤ 201 * j.1) (fun j => j.2.1.length) (0, list, a1, 0, []) [0, 3, 4] ⟨by simp, rfl, rfl, by simp⟩ ?_ rfl rfl ?_)))
  · as_aux_lemma => kernel_rfl
  rintro ⟨k, ys, oa, oc, out⟩ ⟨hk, hd, hv0, hv1⟩
  try dsimp only at hk hd hv0 hv1
  refine SEQ (SEQ (REGION [0, 1, 2, 3] rfl (RUN0 4 [] [(0, .v (.slice list_a list.length list_c)), (3, .v (.slice oa out.length oc)), (4, I (k : Int)), (13, B (decide ((k : Int) < (list.length : Int))))] ?_ rfl ?_)))
  · as_aux_lemma => kernel_rfl
  refine ENDOPS (NEXT (IF (decide ((k : Int) < (list.length : Int))) ?_ (fun bh4 => ?_) (fun bh4 => ?_)))
  · as_aux_lemma => kernel_rfl
  ·
   have h4 := bh4
   have h4 := of_decide_eq_true h4
   obtain ⟨y5, ys6, rfl, hx_y5, hd_y5, hl_y5⟩ := drop_cons hd hk (by omega)
   refine SKIP (NEXT (SEQ (BLOCK (SEQ (REGION [0, 1, 2, 3, 4, 5] rfl (RUN0 2 [2, 3, 4, 5] [(0, .v (.slice list_a list.length list_c)), (3, .v (.slice oa out.length oc)), (4, I (k : Int)), (16, .v (.slice list_a list.length list_c)), (17, I (k : Int))] ?_ rfl ?_))))))
   · as_aux_lemma => kernel_rfl
   refine OPC (INDEX 24 (.tmp 16) (.tmp 17) 18 0 ?_ (NL rfl) list_a list.length list_c .i64 (k : Int) 30 6 ?_ ?_ ?_ ?_ (Rd.some hlist (by omega)) (by omega) (by omega) ?_)
   iterate 5 (as_aux_lemma => kernel_rfl)
   refine OPC (LOADE 30 (.tmp 18) 19 30 ?_ (NL rfl) list_a (k * 6) 0 [vi y5.kind, vi y5.id, vi y5.cabin, vi y5.from', vi y5.size, vi y5.tier] (.agg #[vi y5.kind, vi y5.id, vi y5.cabin, vi y5.from', vi y5.size, vi y5.tier]) ?_ (fun w hw => (hlist.fr hw.fr).flat hx_y5) ?_ ?_)
   iterate 3 (as_aux_lemma => kernel_rfl)
   refine OPC (CALL 19 #[.agg #[vi y5.kind, vi y5.id, vi y5.cabin, vi y5.from', vi y5.size, vi y5.tier]] (some 20) ?_ [] [] _ rfl (RV (.string (bs (reqLine y5)))) (fun w hw => sReqLine_c w y5) (NO rfl) ?_)
   · as_aux_lemma => kernel_rfl
   rintro ⟨⟩
   have hr7 := reqLine_len y5
   refine RUN0 1 [] [(0, .v (.slice list_a list.length list_c)), (3, .v (.slice oa out.length oc)), (4, I (k : Int)), (5, .v (.string (bs (reqLine y5))))] ?_ rfl ?_
   · as_aux_lemma => kernel_rfl
   refine ENDOPS (NEXT (SEQ (SEQ (REGION [0, 1] rfl (RUN0 1 [1] [(0, .v (.slice list_a list.length list_c)), (3, .v (.slice oa out.length oc)), (4, I (k : Int)), (5, .v (.string (bs (reqLine y5)))), (21, .v (.string (bs (reqLine y5))))] ?_ rfl ?_)))))
   · as_aux_lemma => kernel_rfl
   refine OPC (RUNV (.binOp .eql 9 (.tmp 21) (.const (.string (bs ([])))) 9) 22 4 ?_ (NL rfl) (.bool ((reqLine y5) == ([]))) (runs_seql (a := reqLine y5) (b := []) ?_ ?_) ?_)
   iterate 3 (as_aux_lemma => kernel_rfl)
   refine ENDOPS (NEXT (IF ((reqLine y5) == ([])) ?_ (fun bh8 => ?_) (fun bh8 => ?_)))
   · as_aux_lemma => kernel_rfl
   ·
    have h8 := bh8
    have h8 := eq_of_beq h8
    refine SEQ (REGION [0] rfl (RUN0 1 [] [(2, .v (.string (bs ([]))))] ?_ rfl ?_))
    · as_aux_lemma => kernel_rfl
    refine ENDOPS (NEXT (RET (PASS trivial (OUTR (PASS trivial (PASS trivial (OUTR (PASS trivial (FIN (.string (bs ([]))) ?_ () ?_ [] ?_)))))))))
    · as_aux_lemma => kernel_rfl
    · (first | (simp [RV, scriptText, *]; done) | (simp only [RV]; rw [scriptText, if_neg hB, hv0]; simp [scriptGo, *]))
    · rfl
   ·
    have h8 := bh8
    have h8 := ne_of_beq_false h8
    refine SKIP (NEXT (SEQ (SEQ (REGION [0, 1] rfl (RUN0 2 [] [(0, .v (.slice list_a list.length list_c)), (3, .v (.slice oa out.length oc)), (4, I (k : Int)), (5, .v (.string (bs (reqLine y5)))), (24, B (decide ((k : Int) > 0)))] ?_ rfl ?_)))))
    · as_aux_lemma => kernel_rfl
    refine ENDOPS (NEXT (IF (decide ((k : Int) > 0)) ?_ (fun bh9 => ?_) (fun bh9 => ?_)))
    · as_aux_lemma => kernel_rfl
    ·
     have h9 := bh9
     have h9 := of_decide_eq_true h9
     refine REGION [0, 1, 2, 3] rfl (RUN0 1 [1, 2, 3] [(0, .v (.slice list_a list.length list_c)), (4, I (k : Int)), (5, .v (.string (bs (reqLine y5)))), (25, .v (.slice oa out.length oc))] ?_ rfl ?_)
     · as_aux_lemma => kernel_rfl
     refine OPC (BUILDS 22 1 #[(0, .const (.int .u8 10))] 26 22 ?_ (NL rfl) 5 [.int .u8 10] ?_ byteL ([10] : List UInt8) rfl (by simp only [maxLen]; omega) [] [] _ rfl (flatRep rfl) (fun a10 ha11 => ?_))
     iterate 2 (as_aux_lemma => kernel_rfl)
     refine OPC (APPENDO 22 (.tmp 25) (.tmp 26) 27 22 ?_ (NL rfl) (.slice oa out.length oc) a10 1 1 ?_ ?_ ha11 5 ?_ byteL (.int .u8 0) 1 ?_ rfl (by decide) 0 0 out ([10] : List UInt8) _ rfl rfl (by first | omega | (simp only [List.length_append, List.length_cons, List.length_nil, List.length_take, List.length_drop] at *; omega)) (by simp only [maxLen]; first | omega | (simp only [List.length_append, List.length_cons, List.length_nil, List.length_take, List.length_drop] at *; omega)) (fun a12 c13 hn14 => ?_))
     iterate 5 (as_aux_lemma => kernel_rfl)
     refine RUN0 1 [] [(0, .v (.slice list_a list.length list_c)), (3, .v (.slice a12 ((out ++ ([10] : List UInt8)).length) c13)), (4, I (k : Int)), (5, .v (.string (bs (reqLine y5))))] ?_ rfl ?_
     · as_aux_lemma => kernel_rfl
     refine ENDOPS (NEXT (REGION [0, 1, 2, 3] rfl (RUN0 2 [2, 3] [(0, .v (.slice list_a list.length list_c)), (4, I (k : Int)), (28, .v (.slice a12 ((out ++ ([10] : List UInt8)).length) c13)), (29, .v (.string (bs (reqLine y5))))] ?_ rfl ?_)))
     · as_aux_lemma => kernel_rfl
     refine OPC (APPENDS 22 9 (.tmp 28) (.tmp 29) 30 22 ?_ (NL rfl) (.slice a12 ((out ++ ([10] : List UInt8)).length) c13) (reqLine y5) ?_ ?_ 5 ?_ ?_ ?_ 0 (out ++ ([10] : List UInt8)) _ rfl (by first | omega | (simp only [List.length_append, List.length_cons, List.length_nil, List.length_take, List.length_drop] at *; omega)) (fun a15 c16 hn17 => ?_))
     iterate 6 (as_aux_lemma => kernel_rfl)
     refine RUN0 1 [] [(0, .v (.slice list_a list.length list_c)), (3, .v (.slice a15 (((out ++ ([10] : List UInt8)) ++ (reqLine y5)).length) c16)), (4, I (k : Int))] ?_ rfl ?_
     · as_aux_lemma => kernel_rfl
     refine ENDOPS (OUTN (NEXT (REGION [0, 1, 2] rfl (RUN0 2 [2] [(0, .v (.slice list_a list.length list_c)), (3, .v (.slice a15 (((out ++ ([10] : List UInt8)) ++ (reqLine y5)).length) c16)), (15, I (wr ((k : Int) + 1)))] ?_ rfl ?_))))
     · as_aux_lemma => kernel_rfl
     refine CAST (d := 15) (vi (wr ((k : Int) + 1))) (vi ((k + 1 : Nat) : Int)) ?_ (vi_cast (by omega) (by omega)) ?_
     · as_aux_lemma => kernel_rfl
     refine RUN0 1 [] [(0, .v (.slice list_a list.length list_c)), (3, .v (.slice a15 (((out ++ ([10] : List UInt8)) ++ (reqLine y5)).length) c16)), (4, I ((k + 1 : Nat) : Int))] ?_ rfl ?_
     · as_aux_lemma => kernel_rfl
     refine ENDOPS (BACK (k + 1, ys6, a15, c16, (out ++ ([10] : List UInt8)) ++ (reqLine y5)) [0, 3, 4] 0 [0] _ ⟨hl_y5, hd_y5, hv0.trans (by first | (have h0 : k = 0 := (by omega); simp [scriptGo, *]; done) | (have h0 : k ≠ 0 := (by omega); simp [scriptGo, *])), (by simp only [List.length_append, List.length_cons, List.length_nil]; omega)⟩ (by simp) ?_ rfl rfl rfl)
     · as_aux_lemma => kernel_rfl
    ·
     have h9 := bh9
     have h9 := of_decide_eq_false h9
     refine SKIP (NEXT (REGION [0, 1, 2, 3] rfl (RUN0 2 [2, 3] [(0, .v (.slice list_a list.length list_c)), (4, I (k : Int)), (28, .v (.slice oa out.length oc)), (29, .v (.string (bs (reqLine y5))))] ?_ rfl ?_)))
     · as_aux_lemma => kernel_rfl
     refine OPC (APPENDS 22 9 (.tmp 28) (.tmp 29) 30 22 ?_ (NL rfl) (.slice oa out.length oc) (reqLine y5) ?_ ?_ 5 ?_ ?_ ?_ 0 out _ rfl (by first | omega | (simp only [List.length_append, List.length_cons, List.length_nil, List.length_take, List.length_drop] at *; omega)) (fun a18 c19 hn20 => ?_))
     iterate 6 (as_aux_lemma => kernel_rfl)
     refine RUN0 1 [] [(0, .v (.slice list_a list.length list_c)), (3, .v (.slice a18 ((out ++ (reqLine y5)).length) c19)), (4, I (k : Int))] ?_ rfl ?_
     · as_aux_lemma => kernel_rfl
     refine ENDOPS (OUTN (NEXT (REGION [0, 1, 2] rfl (RUN0 2 [2] [(0, .v (.slice list_a list.length list_c)), (3, .v (.slice a18 ((out ++ (reqLine y5)).length) c19)), (15, I (wr ((k : Int) + 1)))] ?_ rfl ?_))))
     · as_aux_lemma => kernel_rfl
     refine CAST (d := 15) (vi (wr ((k : Int) + 1))) (vi ((k + 1 : Nat) : Int)) ?_ (vi_cast (by omega) (by omega)) ?_
     · as_aux_lemma => kernel_rfl
     refine RUN0 1 [] [(0, .v (.slice list_a list.length list_c)), (3, .v (.slice a18 ((out ++ (reqLine y5)).length) c19)), (4, I ((k + 1 : Nat) : Int))] ?_ rfl ?_
     · as_aux_lemma => kernel_rfl
     refine ENDOPS (BACK (k + 1, ys6, a18, c19, out ++ (reqLine y5)) [0, 3, 4] 0 [0] _ ⟨hl_y5, hd_y5, hv0.trans (by first | (have h0 : k = 0 := (by omega); simp [scriptGo, *]; done) | (have h0 : k ≠ 0 := (by omega); simp [scriptGo, *])), (by simp only [List.length_append, List.length_cons, List.length_nil]; omega)⟩ (by simp) ?_ rfl rfl rfl)
     · as_aux_lemma => kernel_rfl
  ·
   have h4 := bh4
   have h4 := of_decide_eq_false h4
   obtain rfl := drop_nil hk (by omega)
   refine EXIT (PASS trivial (PASS trivial (OUT (NEXT (SEQ (REGION [0, 1, 2] rfl (RUN0 1 [1, 2] [(31, .v (.slice oa out.length oc))] ?_ rfl ?_)))))))
   · as_aux_lemma => kernel_rfl
   refine OPC (RUNV (.convert 22 9 (.tmp 31)) 32 9 ?_ (NL rfl) (.string (bs out)) (runs_bstr (a := oa) (n := out.length) (c := oc) (xs := out) (e := 5) ?_ ?_ ?_ ?_ rfl (fun w hw => (hw.rdO 0 rfl))) ?_)
   iterate 5 (as_aux_lemma => kernel_rfl)
   refine RUN0 1 [] [(2, .v (.string (bs out)))] ?_ rfl ?_
   · as_aux_lemma => kernel_rfl
   refine ENDOPS (NEXT (RET (FIN (.string (bs out)) ?_ () ?_ [] ?_)))
   · as_aux_lemma => kernel_rfl
   · (first | (simp [RV, scriptText, *]; done) | (simp only [RV]; rw [scriptText, if_neg hB, hv0]; simp [scriptGo, *]))
   · rfl

theorem iScriptText_c (W : World) (list : List Req) (list_a : Option Addr) (list_c : Nat) (hlist : Rd reqL W list_a list) (htab : Tab Tryz.prog W) : Spec Tryz.prog W [] 7 #[.slice list_a list.length list_c] (RV (.string (bs (scriptText list)))) := by
 refine ENTER0 (N := 27) (vs := [.slice list_a list.length list_c]) Tryz.func7 rfl rfl (NL rfl) ?_
 have hlist_len := hlist.len
 refine SEQ (REGION [0] rfl (RUN0 1 [] [(0, .v (.slice list_a list.length list_c))] ?_ rfl ?_))
 · as_aux_lemma => kernel_rfl
 refine ENDOPS (NEXT (SEQ (SEQ (REGION [0, 1, 2] rfl (RUN0 3 [] [(0, .v (.slice list_a list.length list_c)), (9, B (decide ((list.length : Int) > 200)))] ?_ rfl ?_)))))
 · as_aux_lemma => kernel_rfl
 refine ENDOPS (NEXT (IF (decide ((list.length : Int) > 200)) ?_ (fun bh1 => ?_) (fun bh1 => ?_)))
 · as_aux_lemma => kernel_rfl
 ·
  have h1 := bh1
  have h1 := of_decide_eq_true h1
  have hB : 200 < list.length := by omega
  refine SEQ (REGION [0] rfl (RUN0 1 [] [(2, .v (.string (bs ([]))))] ?_ rfl ?_))
  · as_aux_lemma => kernel_rfl
  refine ENDOPS (NEXT (RET (PASS trivial (FIN (.string (bs ([]))) ?_ () ?_ [] ?_))))
  · as_aux_lemma => kernel_rfl
  · (first | (simp [RV, scriptText, *]; done) | (simp only [RV]; rw [scriptText_of hB, hv0]; simp [linesGo, *]))
  · rfl
 ·
  have h1 := bh1
  have h1 := of_decide_eq_false h1
  have hB : ¬ 200 < list.length := by omega
  refine SKIP (NEXT (SEQ (REGION [0] rfl (RUN0 1 [] [(0, .v (.slice list_a list.length list_c)), (3, .v (.slice none 0 0))] ?_ rfl ?_))))
  · as_aux_lemma => kernel_rfl
  refine ENDOPS (NEXT (SEQ (SEQ (REGION [0, 1, 2] rfl (RUN0 3 [] [(3, .v (.slice none 0 0)), (10, .v (.slice list_a list.length list_c)), (11, I (list.length : Int)), (12, I 0)] ?_ rfl ?_)))))
  · as_aux_lemma => kernel_rfl
  refine ENDOPS (NEXT (BLOCK (NIL 9 strL ?_)))
  refine LOOP (ι := Nat × (List Req) × (Option Addr) × Nat × (List (List UInt8))) (fun j => [(3, .v (.slice j.2.2.1 j.2.2.2.2.length j.2.2.2.1)), (10, .v (.slice list_a list.length list_c)), (11, I (list.length : Int)), (12, I (j.1 : Int))]) (fun j => []) (fun j => [slA 9 strL (.slice j.2.2.1 j.2.2.2.2.length j.2.2.2.1) j.2.2.2.2]) (fun j => j.1 + j.2.1.length = list.length ∧ list.drop j.1 = j.2.1 ∧ linesGo [] list = linesGo j.2.2.2.2 j.2.1 ∧ j.2.2.2.2.length = j.1 ∧ ∀ x ∈ j.2.2.2.2, x.length ≤ 200) (fun j => j.2.1.length) (0, list, none, 0, []) [3, 10, 11, 12] ⟨by simp, rfl, rfl, rfl, by simp⟩ ?_ rfl rfl ?_
  · as_aux_lemma => kernel_rfl
  rintro ⟨k, ys, oa, oc, out⟩ ⟨hk, hd, hv0, hv1, hv2⟩
  try dsimp only at hk hd hv0 hv1 hv2
  refine SEQ (REGION [0] rfl (RUN0 1 [] [(3, .v (.slice oa out.length oc)), (10, .v (.slice list_a list.length list_c)), (11, I (list.length : Int)), (12, I (k : Int)), (13, B (decide ((k : Int) < (list.length : Int))))] ?_ rfl ?_))
  · as_aux_lemma => kernel_rfl
  refine ENDOPS (NEXT (SEQ (IF (decide ((k : Int) < (list.length : Int))) ?_ (fun bh2 => ?_) (fun bh2 => ?_))))
  · as_aux_lemma => kernel_rfl
  ·
   have h2 := bh2
   have h2 := of_decide_eq_true h2
   obtain ⟨y3, ys4, rfl, hx_y3, hd_y3, hl_y3⟩ := drop_cons hd hk (by omega)
   refine SKIP (NEXT (SEQ (BLOCK (SEQ (REGION [0, 1, 2, 3] rfl (OPC (INDEX 24 (.tmp 10) (.tmp 12) 14 0 ?_ (NL rfl) list_a list.length list_c .i64 (k : Int) 30 6 ?_ ?_ ?_ ?_ (Rd.some hlist (by omega)) (by omega) (by omega) ?_)))))))
   iterate 5 (as_aux_lemma => kernel_rfl)
   refine OPC (LOADE 30 (.tmp 14) 15 30 ?_ (NL rfl) list_a (k * 6) 0 [vi y3.kind, vi y3.id, vi y3.cabin, vi y3.from', vi y3.size, vi y3.tier] (.agg #[vi y3.kind, vi y3.id, vi y3.cabin, vi y3.from', vi y3.size, vi y3.tier]) ?_ (fun w hw => (hlist.fr hw.fr).flat hx_y3) ?_ ?_)
   iterate 3 (as_aux_lemma => kernel_rfl)
   refine RUN 2 [] [(3, .v (.slice oa out.length oc)), (5, .p 0 0), (10, .v (.slice list_a list.length list_c)), (11, I (list.length : Int)), (12, I (k : Int))] [(30, [vi y3.kind, vi y3.id, vi y3.cabin, vi y3.from', vi y3.size, vi y3.tier])] ?_ rfl ?_
   · as_aux_lemma => kernel_rfl
   refine ENDOPS (NEXT (SEQ (REGION [0, 1, 2] rfl (RUN0 1 [1, 2] [(3, .v (.slice oa out.length oc)), (10, .v (.slice list_a list.length list_c)), (11, I (list.length : Int)), (12, I (k : Int)), (16, .v (.agg #[vi y3.kind, vi y3.id, vi y3.cabin, vi y3.from', vi y3.size, vi y3.tier]))] ?_ rfl ?_))))
   · as_aux_lemma => kernel_rfl
   refine OPC (CALL 11 #[.agg #[vi y3.kind, vi y3.id, vi y3.cabin, vi y3.from', vi y3.size, vi y3.tier]] (some 17) ?_ [] [] _ rfl (RV (.string (bs (reqLine y3)))) (fun w hw => iReqLine_c w y3 (htab.fr hw.fr)) (NO rfl) ?_)
   · as_aux_lemma => kernel_rfl
   rintro ⟨⟩
   have hr5 := reqLine_len y3
   refine RUN0 1 [] [(3, .v (.slice oa out.length oc)), (6, .v (.string (bs (reqLine y3)))), (10, .v (.slice list_a list.length list_c)), (11, I (list.length : Int)), (12, I (k : Int))] ?_ rfl ?_
   · as_aux_lemma => kernel_rfl
   refine ENDOPS (NEXT (SEQ (SEQ (REGION [0, 1] rfl (RUN0 1 [1] [(3, .v (.slice oa out.length oc)), (6, .v (.string (bs (reqLine y3)))), (10, .v (.slice list_a list.length list_c)), (11, I (list.length : Int)), (12, I (k : Int)), (18, .v (.string (bs (reqLine y3))))] ?_ rfl ?_)))))
   · as_aux_lemma => kernel_rfl
   refine OPC (RUNV (.binOp .eql 9 (.tmp 18) (.const (.string (bs ([])))) 9) 19 4 ?_ (NL rfl) (.bool ((reqLine y3) == ([]))) (runs_seql (a := reqLine y3) (b := []) ?_ ?_) ?_)
   iterate 3 (as_aux_lemma => kernel_rfl)
   refine ENDOPS (NEXT (IF ((reqLine y3) == ([])) ?_ (fun bh6 => ?_) (fun bh6 => ?_)))
   · as_aux_lemma => kernel_rfl
   ·
    have h6 := bh6
    have h6 := eq_of_beq h6
    refine SEQ (REGION [0] rfl (RUN0 1 [] [(2, .v (.string (bs ([]))))] ?_ rfl ?_))
    · as_aux_lemma => kernel_rfl
    refine ENDOPS (NEXT (RET (PASS trivial (OUTR (PASS trivial (PASS trivial (OUTR (PASS trivial (FIN (.string (bs ([]))) ?_ () ?_ [] ?_)))))))))
    · as_aux_lemma => kernel_rfl
    · (first | (simp [RV, scriptText, *]; done) | (simp only [RV]; rw [scriptText_of hB, hv0]; simp [linesGo, *]))
    · rfl
   ·
    have h6 := bh6
    have h6 := ne_of_beq_false h6
    refine SKIP (NEXT (REGION [0, 1, 2, 3, 4] rfl (RUN0 2 [2, 3, 4] [(10, .v (.slice list_a list.length list_c)), (11, I (list.length : Int)), (12, I (k : Int)), (20, .v (.slice oa out.length oc)), (21, .v (.string (bs (reqLine y3))))] ?_ rfl ?_)))
    · as_aux_lemma => kernel_rfl
    refine OPC (BUILDS 36 1 #[(0, .tmp 21)] 22 36 ?_ (NL rfl) 9 [.string (bs (reqLine y3))] ?_ strL ([reqLine y3] : List (List UInt8)) rfl (by simp only [maxLen]; omega) [] [] _ rfl (flatRep rfl) (fun a7 ha8 => ?_))
    iterate 2 (as_aux_lemma => kernel_rfl)
    refine OPC (APPENDO 36 (.tmp 20) (.tmp 22) 23 36 ?_ (NL rfl) (.slice oa out.length oc) a7 1 1 ?_ ?_ ha8 9 ?_ strL (.string (bs [])) 16 ?_ rfl (by decide) 0 0 out ([reqLine y3] : List (List UInt8)) _ rfl rfl (by first | omega | (simp only [List.length_append, List.length_cons, List.length_nil, List.length_take, List.length_drop] at *; omega)) (by simp only [maxLen]; first | omega | (simp only [List.length_append, List.length_cons, List.length_nil, List.length_take, List.length_drop] at *; omega)) (fun a9 c10 hn11 => ?_))
    iterate 5 (as_aux_lemma => kernel_rfl)
    refine RUN0 1 [] [(3, .v (.slice a9 ((out ++ ([reqLine y3] : List (List UInt8))).length) c10)), (10, .v (.slice list_a list.length list_c)), (11, I (list.length : Int)), (12, I (k : Int))] ?_ rfl ?_
    · as_aux_lemma => kernel_rfl
    refine ENDOPS (OUTN (NEXT (REGION [0, 1] rfl (RUN0 1 [1] [(3, .v (.slice a9 ((out ++ ([reqLine y3] : List (List UInt8))).length) c10)), (10, .v (.slice list_a list.length list_c)), (11, I (list.length : Int)), (24, I (wr ((k : Int) + 1)))] ?_ rfl ?_))))
    · as_aux_lemma => kernel_rfl
    refine CAST (d := 24) (vi (wr ((k : Int) + 1))) (vi ((k + 1 : Nat) : Int)) ?_ (vi_cast (by omega) (by omega)) ?_
    · as_aux_lemma => kernel_rfl
    refine RUN0 1 [] [(3, .v (.slice a9 ((out ++ ([reqLine y3] : List (List UInt8))).length) c10)), (10, .v (.slice list_a list.length list_c)), (11, I (list.length : Int)), (12, I ((k + 1 : Nat) : Int))] ?_ rfl ?_
    · as_aux_lemma => kernel_rfl
    refine ENDOPS (BACK (k + 1, ys4, a9, c10, out ++ ([reqLine y3] : List (List UInt8))) [3, 10, 11, 12] 0 [0] _ ⟨hl_y3, hd_y3, hv0.trans (by simp [linesGo, *]), (by simp only [List.length_append, List.length_cons, List.length_nil]; omega), (fun x hx => (List.mem_append.1 hx).elim (hv2 x) (fun hx => by simp at hx; subst hx; assumption))⟩ (by simp) ?_ rfl rfl rfl)
    · as_aux_lemma => kernel_rfl
  ·
   have h2 := bh2
   have h2 := of_decide_eq_false h2
   obtain rfl := drop_nil hk (by omega)
   refine EXIT (PASS trivial (PASS trivial (OUT (NEXT (SEQ (REGION [0, 1, 2] rfl (RUN0 1 [1, 2] [(25, .v (.slice oa out.length oc))] ?_ rfl ?_)))))))
   · as_aux_lemma => kernel_rfl
   refine FACT (out.length ≤ oc) (fun w hw => SlO.capE (hw.own 0 rfl)) (fun hcap12 => ?_)
   refine OPC (CALL 18 #[.slice oa out.length oc, .string (bs ([10]))] (some 26) ?_ [] [] _ rfl (RV (.string (bs (Lib.join out ([10]))))) (fun w hw => join_c w out oa oc (hw.rdO 0 rfl) ([10]) (by omega) (by first | assumption | (have h9 := join_len out 200 (by assumption); omega)) (by omega)) (NO rfl) ?_)
   · as_aux_lemma => kernel_rfl
   rintro ⟨⟩
   refine RUN0 1 [] [(2, .v (.string (bs (Lib.join out ([10])))))] ?_ rfl ?_
   · as_aux_lemma => kernel_rfl
   refine ENDOPS (NEXT (RET (FIN (.string (bs (Lib.join out ([10])))) ?_ () ?_ [] ?_)))
   · as_aux_lemma => kernel_rfl
   · (first | (simp [RV, scriptText, *]; done) | (simp only [RV]; rw [scriptText_of hB, hv0]; simp [linesGo, *]))
   · rfl

end SX
end Go.Proofs.YtpdijcbgdalphabGreatDoor
