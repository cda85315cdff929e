/- Walks, printed by program. -/
import Derived.Test.YtpdijcbgdalphabDoorV2
namespace Go.Proofs.YtpdijcbgdalphabDoor
namespace SX
open Go Go.RowKit
set_option linter.unusedVariables false
set_option linter.unusedSimpArgs false
set_option maxRecDepth 10000
theorem sActOk_c (W : World) (a : Act) (a_keep_a : Option Addr) (a_keep_c : Nat) (ha_keep : Rd intL W a_keep_a a.keep) : Spec Tryd.prog W [] 26 #[.agg #[vi a.kind, vi a.req.kind, vi a.req.id, vi a.req.cabin, vi a.req.from', vi a.req.size, vi a.req.tier, vi a.n, .slice a_keep_a a.keep.length a_keep_c]] (RV (.bool (actOk a))) := by
  refine ENTER0 (N := 83) (vs := [.agg #[vi a.kind, vi a.req.kind, vi a.req.id, vi a.req.cabin, vi a.req.from', vi a.req.size, vi a.req.tier, vi a.n, .slice a_keep_a a.keep.length a_keep_c]]) Tryd.func26 rfl rfl (Nat.le_of_ble_eq_true rfl) ?_
  have ha_keep_len := ha_keep.len
  refine SEQ (REGION [0, 1] rfl (RUN 2 [] [(1, .p 0 0)] [(26, [vi a.kind, vi a.req.kind, vi a.req.id, vi a.req.cabin, vi a.req.from', vi a.req.size, vi a.req.tier, vi a.n, .slice a_keep_a a.keep.length a_keep_c])] ?_ rfl ?_))
  · as_aux_lemma => kernel_rfl
  refine ENDOPS (NEXT (SEQ (REGION [0, 1, 2, 3, 4] rfl (RUN0 3 [3, 4] [(1, .p 0 0), (6, .v (.agg #[vi a.req.kind, vi a.req.id, vi a.req.cabin, vi a.req.from', vi a.req.size, vi a.req.tier])), (7, .v (.agg #[vi 0, vi 0, vi 0, vi 0, vi 0, vi 0]))] ?_ rfl ?_))))
  · as_aux_lemma => kernel_rfl
  refine OPC (RUNV (.binOp .eql 23 (.tmp 6) (.tmp 7) 23) 8 4 ?_ (Nat.le_of_ble_eq_true rfl) (.bool ((a.req.kind == 0) && ((a.req.id == 0) && ((a.req.cabin == 0) && ((a.req.from' == 0) && ((a.req.size == 0) && ((a.req.tier == 0) && true))))))) (runs_eql (xs := [vi a.req.kind, vi a.req.id, vi a.req.cabin, vi a.req.from', vi a.req.size, vi a.req.tier]) (ys := [vi 0, vi 0, vi 0, vi 0, vi 0, vi 0]) (r := (a.req.kind == 0) && ((a.req.id == 0) && ((a.req.cabin == 0) && ((a.req.from' == 0) && ((a.req.size == 0) && ((a.req.tier == 0) && true)))))) ?_ ?_ ?_) ?_)
  · as_aux_lemma => kernel_rfl
  · as_aux_lemma => kernel_rfl
  · as_aux_lemma => kernel_rfl
  · as_aux_lemma => kernel_rfl
  refine RUN0 1 [] [(1, .p 0 0), (3, B ((a.req.kind == 0) && ((a.req.id == 0) && ((a.req.cabin == 0) && ((a.req.from' == 0) && ((a.req.size == 0) && ((a.req.tier == 0) && true)))))))] ?_ rfl ?_
  · as_aux_lemma => kernel_rfl
  refine ENDOPS (NEXT (SEQ (SEQ (REGION [0, 1] rfl (RUN0 2 [] [(1, .p 0 0), (3, B ((a.req.kind == 0) && ((a.req.id == 0) && ((a.req.cabin == 0) && ((a.req.from' == 0) && ((a.req.size == 0) && ((a.req.tier == 0) && true))))))), (10, I a.kind)] ?_ rfl ?_)))))
  · as_aux_lemma => kernel_rfl
  refine ENDOPS (NEXT (BLOCK (SEQ (REGION [0, 1] rfl (RUN0 2 [] [(1, .p 0 0), (3, B ((a.req.kind == 0) && ((a.req.id == 0) && ((a.req.cabin == 0) && ((a.req.from' == 0) && ((a.req.size == 0) && ((a.req.tier == 0) && true))))))), (10, I a.kind), (11, B (a.kind == 1))] ?_ rfl ?_)))))
  · as_aux_lemma => kernel_rfl
  refine ENDOPS (NEXT (IF (a.kind == 1) ?_ (fun bh1 => ?_) (fun bh1 => ?_)))
  · as_aux_lemma => kernel_rfl
  · -- a.kind == 1 = true
    have h1 := bh1
    have h1 := eq_of_beq h1
    refine SEQ (REGION [0, 1, 2, 3, 4, 5, 6, 7, 8, 9, 10, 11, 12, 13, 14] rfl (RUN0 2 [2, 3, 4, 5, 6, 7, 8, 9, 10, 11, 12, 13, 14] [(1, .p 0 0), (14, .v (.agg #[vi a.req.kind, vi a.req.id, vi a.req.cabin, vi a.req.from', vi a.req.size, vi a.req.tier]))] ?_ rfl ?_))
    · as_aux_lemma => kernel_rfl
    refine OPC (CALL 34 #[.agg #[vi a.req.kind, vi a.req.id, vi a.req.cabin, vi a.req.from', vi a.req.size, vi a.req.tier]] (some 15) ?_ [] [] _ rfl (RV (.bool (reqOk a.req))) (fun w hw => sReqOk_c w a.req) (by rintro _ ⟨⟩; exact Nat.le_of_ble_eq_true rfl) ?_)
    · as_aux_lemma => kernel_rfl
    rintro ⟨⟩
    refine RUN0 1 [4, 5, 6, 7, 8, 9, 10, 11, 12, 13, 14] [(1, .p 0 0), (16, B (reqOk a.req))] ?_ rfl ?_
    · as_aux_lemma => kernel_rfl
    refine SPLIT (d := 16) (reqOk a.req) ?_ (fun bh2 => ?_) (fun bh2 => ?_)
    · as_aux_lemma => kernel_rfl
    · -- reqOk a.req = true
      have h2 := bh2
      refine RUN0 5 [9, 10, 11, 12, 13, 14] [(1, .p 0 0), (21, B (a.n == 0))] ?_ rfl ?_
      · as_aux_lemma => kernel_rfl
      refine SPLIT (d := 21) (a.n == 0) ?_ (fun bh3 => ?_) (fun bh3 => ?_)
      · as_aux_lemma => kernel_rfl
      · -- a.n == 0 = true
        have h3 := bh3
        have h3 := eq_of_beq h3
        refine RUN0 6 [] [(2, B ((a.keep.length : Int) == 0))] ?_ rfl ?_
        · as_aux_lemma => kernel_rfl
        refine ENDOPS (NEXT (RET (OUTR (PASS trivial (FIN (.bool ((a.keep.length : Int) == 0)) ?_ () ?_ [] ?_)))))
        · as_aux_lemma => kernel_rfl
        · simp_all [RV, actOk, noReq, reqEq, allKeep]
        · rfl
      · -- a.n == 0 = false
        have h3 := bh3
        have h3 := ne_of_beq_false h3
        refine RUN0 6 [] [(2, B false)] ?_ rfl ?_
        · as_aux_lemma => kernel_rfl
        refine ENDOPS (NEXT (RET (OUTR (PASS trivial (FIN (.bool false) ?_ () ?_ [] ?_)))))
        · as_aux_lemma => kernel_rfl
        · simp_all [RV, actOk, noReq, reqEq, allKeep]
        · rfl
    · -- reqOk a.req = false
      have h2 := bh2
      refine RUN0 11 [] [(2, B false)] ?_ rfl ?_
      · as_aux_lemma => kernel_rfl
      refine ENDOPS (NEXT (RET (OUTR (PASS trivial (FIN (.bool false) ?_ () ?_ [] ?_)))))
      · as_aux_lemma => kernel_rfl
      · simp_all [RV, actOk, noReq, reqEq, allKeep]
      · rfl
  · -- a.kind == 1 = false
    have h1 := bh1
    have h1 := ne_of_beq_false h1
    refine SEQ (REGION [0, 1] rfl (RUN0 2 [] [(1, .p 0 0), (3, B ((a.req.kind == 0) && ((a.req.id == 0) && ((a.req.cabin == 0) && ((a.req.from' == 0) && ((a.req.size == 0) && ((a.req.tier == 0) && true))))))), (10, I a.kind), (27, B (a.kind == 2))] ?_ rfl ?_))
    · as_aux_lemma => kernel_rfl
    refine ENDOPS (NEXT (IF (a.kind == 2) ?_ (fun bh4 => ?_) (fun bh4 => ?_)))
    · as_aux_lemma => kernel_rfl
    · -- a.kind == 2 = true
      have h4 := bh4
      have h4 := eq_of_beq h4
      refine SEQ (REGION [0, 1, 2, 3, 4, 5, 6, 7, 8, 9, 10, 11, 12] rfl (RUN0 2 [2, 3, 4, 5, 6, 7, 8, 9, 10, 11, 12] [(1, .p 0 0), (30, B ((a.req.kind == 0) && ((a.req.id == 0) && ((a.req.cabin == 0) && ((a.req.from' == 0) && ((a.req.size == 0) && ((a.req.tier == 0) && true)))))))] ?_ rfl ?_))
      · as_aux_lemma => kernel_rfl
      refine SPLIT (d := 30) ((a.req.kind == 0) && ((a.req.id == 0) && ((a.req.cabin == 0) && ((a.req.from' == 0) && ((a.req.size == 0) && ((a.req.tier == 0) && true)))))) ?_ (fun bh5 => ?_) (fun bh5 => ?_)
      · as_aux_lemma => kernel_rfl
      · -- (a.req.kind == 0) && ((a.req.id == 0) && ((a.req.cabin == 0) && ((a.req.from' == 0) && ((a.req.size  = true
        have h5 := bh5
        refine RUN0 5 [7, 8, 9, 10, 11, 12] [(1, .p 0 0), (35, B (a.n == 0))] ?_ rfl ?_
        · as_aux_lemma => kernel_rfl
        refine SPLIT (d := 35) (a.n == 0) ?_ (fun bh6 => ?_) (fun bh6 => ?_)
        · as_aux_lemma => kernel_rfl
        · -- a.n == 0 = true
          have h6 := bh6
          have h6 := eq_of_beq h6
          refine RUN0 6 [] [(2, B ((a.keep.length : Int) == 0))] ?_ rfl ?_
          · as_aux_lemma => kernel_rfl
          refine ENDOPS (NEXT (RET (OUTR (PASS trivial (FIN (.bool ((a.keep.length : Int) == 0)) ?_ () ?_ [] ?_)))))
          · as_aux_lemma => kernel_rfl
          · simp_all [RV, actOk, noReq, reqEq, allKeep]
          · rfl
        · -- a.n == 0 = false
          have h6 := bh6
          have h6 := ne_of_beq_false h6
          refine RUN0 6 [] [(2, B false)] ?_ rfl ?_
          · as_aux_lemma => kernel_rfl
          refine ENDOPS (NEXT (RET (OUTR (PASS trivial (FIN (.bool false) ?_ () ?_ [] ?_)))))
          · as_aux_lemma => kernel_rfl
          · simp_all [RV, actOk, noReq, reqEq, allKeep]
          · rfl
      · -- (a.req.kind == 0) && ((a.req.id == 0) && ((a.req.cabin == 0) && ((a.req.from' == 0) && ((a.req.size  = false
        have h5 := bh5
        refine RUN0 11 [] [(2, B false)] ?_ rfl ?_
        · as_aux_lemma => kernel_rfl
        refine ENDOPS (NEXT (RET (OUTR (PASS trivial (FIN (.bool false) ?_ () ?_ [] ?_)))))
        · as_aux_lemma => kernel_rfl
        · simp_all [RV, actOk, noReq, reqEq, allKeep]
        · rfl
    · -- a.kind == 2 = false
      have h4 := bh4
      have h4 := ne_of_beq_false h4
      refine SEQ (REGION [0, 1] rfl (RUN0 2 [] [(1, .p 0 0), (3, B ((a.req.kind == 0) && ((a.req.id == 0) && ((a.req.cabin == 0) && ((a.req.from' == 0) && ((a.req.size == 0) && ((a.req.tier == 0) && true))))))), (10, I a.kind), (41, B (a.kind == 3))] ?_ rfl ?_))
      · as_aux_lemma => kernel_rfl
      refine ENDOPS (NEXT (IF (a.kind == 3) ?_ (fun bh7 => ?_) (fun bh7 => ?_)))
      · as_aux_lemma => kernel_rfl
      · -- a.kind == 3 = true
        have h7 := bh7
        have h7 := eq_of_beq h7
        refine SEQ (REGION [0, 1, 2, 3, 4, 5, 6, 7, 8, 9, 10, 11, 12] rfl (RUN0 2 [2, 3, 4, 5, 6, 7, 8, 9, 10, 11, 12] [(1, .p 0 0), (44, B ((a.req.kind == 0) && ((a.req.id == 0) && ((a.req.cabin == 0) && ((a.req.from' == 0) && ((a.req.size == 0) && ((a.req.tier == 0) && true)))))))] ?_ rfl ?_))
        · as_aux_lemma => kernel_rfl
        refine SPLIT (d := 44) ((a.req.kind == 0) && ((a.req.id == 0) && ((a.req.cabin == 0) && ((a.req.from' == 0) && ((a.req.size == 0) && ((a.req.tier == 0) && true)))))) ?_ (fun bh8 => ?_) (fun bh8 => ?_)
        · as_aux_lemma => kernel_rfl
        · -- (a.req.kind == 0) && ((a.req.id == 0) && ((a.req.cabin == 0) && ((a.req.from' == 0) && ((a.req.size  = true
          have h8 := bh8
          refine RUN0 2 [4, 5, 6, 7, 8, 9, 10, 11, 12] [(1, .p 0 0), (44, B true), (46, I a.n)] ?_ rfl ?_
          · as_aux_lemma => kernel_rfl
          refine OPC (CALL 35 #[vi a.n] (some 47) ?_ [] [] _ rfl (RV (.bool (usedB a.n))) (fun w hw => l12Field_c w a.n) (by rintro _ ⟨⟩; exact Nat.le_of_ble_eq_true rfl) ?_)
          · as_aux_lemma => kernel_rfl
          rintro ⟨⟩
          refine RUN0 2 [7, 8, 9, 10, 11, 12] [(1, .p 0 0), (49, B (usedB a.n))] ?_ rfl ?_
          · as_aux_lemma => kernel_rfl
          refine SPLIT (d := 49) (usedB a.n) ?_ (fun bh9 => ?_) (fun bh9 => ?_)
          · as_aux_lemma => kernel_rfl
          · -- usedB a.n = true
            have h9 := bh9
            refine RUN0 6 [] [(2, B ((a.keep.length : Int) == 0))] ?_ rfl ?_
            · as_aux_lemma => kernel_rfl
            refine ENDOPS (NEXT (RET (OUTR (PASS trivial (FIN (.bool ((a.keep.length : Int) == 0)) ?_ () ?_ [] ?_)))))
            · as_aux_lemma => kernel_rfl
            · simp_all [RV, actOk, noReq, reqEq, allKeep]
            · rfl
          · -- usedB a.n = false
            have h9 := bh9
            refine RUN0 6 [] [(2, B false)] ?_ rfl ?_
            · as_aux_lemma => kernel_rfl
            refine ENDOPS (NEXT (RET (OUTR (PASS trivial (FIN (.bool false) ?_ () ?_ [] ?_)))))
            · as_aux_lemma => kernel_rfl
            · simp_all [RV, actOk, noReq, reqEq, allKeep]
            · rfl
        · -- (a.req.kind == 0) && ((a.req.id == 0) && ((a.req.cabin == 0) && ((a.req.from' == 0) && ((a.req.size  = false
          have h8 := bh8
          refine RUN0 11 [] [(2, B false)] ?_ rfl ?_
          · as_aux_lemma => kernel_rfl
          refine ENDOPS (NEXT (RET (OUTR (PASS trivial (FIN (.bool false) ?_ () ?_ [] ?_)))))
          · as_aux_lemma => kernel_rfl
          · simp_all [RV, actOk, noReq, reqEq, allKeep]
          · rfl
      · -- a.kind == 3 = false
        have h7 := bh7
        have h7 := ne_of_beq_false h7
        refine SEQ (REGION [0, 1] rfl (RUN0 2 [] [(1, .p 0 0), (3, B ((a.req.kind == 0) && ((a.req.id == 0) && ((a.req.cabin == 0) && ((a.req.from' == 0) && ((a.req.size == 0) && ((a.req.tier == 0) && true))))))), (55, B (a.kind == 4))] ?_ rfl ?_))
        · as_aux_lemma => kernel_rfl
        refine ENDOPS (NEXT (IF (a.kind == 4) ?_ (fun bh10 => ?_) (fun bh10 => ?_)))
        · as_aux_lemma => kernel_rfl
        · -- a.kind == 4 = true
          have h10 := bh10
          have h10 := eq_of_beq h10
          refine SEQ (SEQ (REGION [0] rfl (RUN0 1 [] [(1, .p 0 0), (3, B ((a.req.kind == 0) && ((a.req.id == 0) && ((a.req.cabin == 0) && ((a.req.from' == 0) && ((a.req.size == 0) && ((a.req.tier == 0) && true))))))), (4, I 0)] ?_ rfl ?_)))
          · as_aux_lemma => kernel_rfl
          refine ENDOPS (NEXT (BLOCK (LOOP (ι := Nat × (List Int)) (fun j => [(1, .p 0 0), (3, B ((a.req.kind == 0) && ((a.req.id == 0) && ((a.req.cabin == 0) && ((a.req.from' == 0) && ((a.req.size == 0) && ((a.req.tier == 0) && true))))))), (4, I (j.1 : Int))]) (fun j => [(26, [vi a.kind, vi a.req.kind, vi a.req.id, vi a.req.cabin, vi a.req.from', vi a.req.size, vi a.req.tier, vi a.n, .slice a_keep_a a.keep.length a_keep_c])]) (fun j => []) (fun j => j.1 + j.2.length = a.keep.length ∧ a.keep.drop j.1 = j.2 ∧ allKeep a.keep = allKeep j.2) (fun j => j.2.length) (0, a.keep) [1, 3, 4] ⟨by simp, rfl, rfl⟩ ?_ rfl rfl ?_)))
          · as_aux_lemma => kernel_rfl
          rintro ⟨k, ys⟩ ⟨hk, hd, hv0⟩
          dsimp only at hk hd hv0
          refine SEQ (SEQ (REGION [0, 1, 2, 3, 4] rfl (RUN0 5 [] [(1, .p 0 0), (3, B ((a.req.kind == 0) && ((a.req.id == 0) && ((a.req.cabin == 0) && ((a.req.from' == 0) && ((a.req.size == 0) && ((a.req.tier == 0) && true))))))), (4, I (k : Int)), (61, B (decide ((k : Int) < (a.keep.length : Int))))] ?_ rfl ?_)))
          · as_aux_lemma => kernel_rfl
          refine ENDOPS (NEXT (IF (decide ((k : Int) < (a.keep.length : Int))) ?_ (fun bh11 => ?_) (fun bh11 => ?_)))
          · as_aux_lemma => kernel_rfl
          · -- decide ((k : Int) < (a.keep.length : Int)) = true
            have h11 := bh11
            have h11 := of_decide_eq_true h11
            obtain ⟨y12, ys13, rfl, hx_y12, hd_y12, hl_y12⟩ := drop_cons hd hk (by omega)
            refine SKIP (NEXT (SEQ (BLOCK (SEQ (REGION [0, 1, 2, 3, 4, 5, 6] rfl (RUN0 3 [3, 4, 5, 6] [(1, .p 0 0), (3, B ((a.req.kind == 0) && ((a.req.id == 0) && ((a.req.cabin == 0) && ((a.req.from' == 0) && ((a.req.size == 0) && ((a.req.tier == 0) && true))))))), (4, I (k : Int)), (65, .v (.slice a_keep_a a.keep.length a_keep_c)), (66, I (k : Int))] ?_ rfl ?_))))))
            · as_aux_lemma => kernel_rfl
            refine OPC (INDEX 24 (.tmp 65) (.tmp 66) 67 0 ?_ (Nat.le_of_ble_eq_true rfl) a_keep_a a.keep.length a_keep_c .i64 (k : Int) 3 1 ?_ ?_ ?_ ?_ (Rd.some ha_keep (by omega)) (by omega) (by omega) ?_)
            · as_aux_lemma => kernel_rfl
            · as_aux_lemma => kernel_rfl
            · as_aux_lemma => kernel_rfl
            · as_aux_lemma => kernel_rfl
            · as_aux_lemma => kernel_rfl
            refine OPC (LOADE 3 (.tmp 67) 68 3 ?_ (Nat.le_of_ble_eq_true rfl) a_keep_a (k * 1) 0 [vi y12] (vi y12) ?_ (fun w hw => (ha_keep.fr hw.fr).flat hx_y12) ?_ ?_)
            · as_aux_lemma => kernel_rfl
            · as_aux_lemma => kernel_rfl
            · as_aux_lemma => kernel_rfl
            refine OPC (CALL 36 #[vi y12, vi 0, vi 20000] (some 69) ?_ [] [] _ rfl (RV (.bool (inB y12 0 20000))) (fun w hw => l1In_c w y12 0 20000) (by rintro _ ⟨⟩; exact Nat.le_of_ble_eq_true rfl) ?_)
            · as_aux_lemma => kernel_rfl
            rintro ⟨⟩
            refine RUN0 1 [] [(1, .p 0 0), (3, B ((a.req.kind == 0) && ((a.req.id == 0) && ((a.req.cabin == 0) && ((a.req.from' == 0) && ((a.req.size == 0) && ((a.req.tier == 0) && true))))))), (4, I (k : Int)), (70, B (!(inB y12 0 20000)))] ?_ rfl ?_
            · as_aux_lemma => kernel_rfl
            refine ENDOPS (NEXT (IF (!(inB y12 0 20000)) ?_ (fun bh14 => ?_) (fun bh14 => ?_)))
            · as_aux_lemma => kernel_rfl
            · -- !(inB y12 0 20000) = true
              have h14 := bh14
              have h14 := notT h14
              refine SEQ (REGION [0] rfl (RUN0 1 [] [(2, B false)] ?_ rfl ?_))
              · as_aux_lemma => kernel_rfl
              refine ENDOPS (NEXT (RET (OUTR (PASS trivial (PASS trivial (OUTR (PASS trivial (OUTR (PASS trivial (FIN (.bool false) ?_ () ?_ [] ?_))))))))))
              · as_aux_lemma => kernel_rfl
              · simp_all [RV, actOk, noReq, reqEq, allKeep]
              · rfl
            · -- !(inB y12 0 20000) = false
              have h14 := bh14
              have h14 := notF h14
              refine SKIP (OUTN (NEXT (REGION [0, 1, 2] rfl (RUN0 2 [2] [(1, .p 0 0), (3, B ((a.req.kind == 0) && ((a.req.id == 0) && ((a.req.cabin == 0) && ((a.req.from' == 0) && ((a.req.size == 0) && ((a.req.tier == 0) && true))))))), (63, I (wr ((k : Int) + 1)))] ?_ rfl ?_))))
              · as_aux_lemma => kernel_rfl
              refine CAST (d := 63) (vi (wr ((k : Int) + 1))) (vi ((k + 1 : Nat) : Int)) ?_ (vi_cast (by omega) (by omega)) ?_
              · as_aux_lemma => kernel_rfl
              refine RUN0 1 [] [(1, .p 0 0), (3, B ((a.req.kind == 0) && ((a.req.id == 0) && ((a.req.cabin == 0) && ((a.req.from' == 0) && ((a.req.size == 0) && ((a.req.tier == 0) && true))))))), (4, I ((k + 1 : Nat) : Int))] ?_ rfl ?_
              · as_aux_lemma => kernel_rfl
              refine ENDOPS (BACK (k + 1, ys13) [1, 3, 4] 1 [] _ ⟨hl_y12, hd_y12, hv0.trans (by simp [allKeep, *])⟩ (by simp) ?_ rfl rfl rfl)
              · as_aux_lemma => kernel_rfl
          · -- decide ((k : Int) < (a.keep.length : Int)) = false
            have h11 := bh11
            have h11 := of_decide_eq_false h11
            obtain rfl := drop_nil hk (by omega)
            refine EXIT (PASS trivial (PASS trivial (OUT (NEXT (SEQ (REGION [0, 1, 2, 3, 4, 5, 6, 7, 8, 9, 10, 11, 12] rfl (RUN0 2 [2, 3, 4, 5, 6, 7, 8, 9, 10, 11, 12] [(1, .p 0 0), (72, B ((a.req.kind == 0) && ((a.req.id == 0) && ((a.req.cabin == 0) && ((a.req.from' == 0) && ((a.req.size == 0) && ((a.req.tier == 0) && true)))))))] ?_ rfl ?_)))))))
            · as_aux_lemma => kernel_rfl
            refine SPLIT (d := 72) ((a.req.kind == 0) && ((a.req.id == 0) && ((a.req.cabin == 0) && ((a.req.from' == 0) && ((a.req.size == 0) && ((a.req.tier == 0) && true)))))) ?_ (fun bh15 => ?_) (fun bh15 => ?_)
            · as_aux_lemma => kernel_rfl
            · -- (a.req.kind == 0) && ((a.req.id == 0) && ((a.req.cabin == 0) && ((a.req.from' == 0) && ((a.req.size  = true
              have h15 := bh15
              refine RUN0 5 [7, 8, 9, 10, 11, 12] [(1, .p 0 0), (77, B (a.n == 0))] ?_ rfl ?_
              · as_aux_lemma => kernel_rfl
              refine SPLIT (d := 77) (a.n == 0) ?_ (fun bh16 => ?_) (fun bh16 => ?_)
              · as_aux_lemma => kernel_rfl
              · -- a.n == 0 = true
                have h16 := bh16
                have h16 := eq_of_beq h16
                refine RUN0 6 [] [(2, B (decide ((a.keep.length : Int) ≤ 3)))] ?_ rfl ?_
                · as_aux_lemma => kernel_rfl
                refine ENDOPS (NEXT (RET (OUTR (PASS trivial (FIN (.bool (decide ((a.keep.length : Int) ≤ 3))) ?_ () ?_ [] ?_)))))
                · as_aux_lemma => kernel_rfl
                · simp_all [RV, actOk, noReq, reqEq, allKeep]
                · rfl
              · -- a.n == 0 = false
                have h16 := bh16
                have h16 := ne_of_beq_false h16
                refine RUN0 6 [] [(2, B false)] ?_ rfl ?_
                · as_aux_lemma => kernel_rfl
                refine ENDOPS (NEXT (RET (OUTR (PASS trivial (FIN (.bool false) ?_ () ?_ [] ?_)))))
                · as_aux_lemma => kernel_rfl
                · simp_all [RV, actOk, noReq, reqEq, allKeep]
                · rfl
            · -- (a.req.kind == 0) && ((a.req.id == 0) && ((a.req.cabin == 0) && ((a.req.from' == 0) && ((a.req.size  = false
              have h15 := bh15
              refine RUN0 11 [] [(2, B false)] ?_ rfl ?_
              · as_aux_lemma => kernel_rfl
              refine ENDOPS (NEXT (RET (OUTR (PASS trivial (FIN (.bool false) ?_ () ?_ [] ?_)))))
              · as_aux_lemma => kernel_rfl
              · simp_all [RV, actOk, noReq, reqEq, allKeep]
              · rfl
        · -- a.kind == 4 = false
          have h10 := bh10
          have h10 := ne_of_beq_false h10
          refine SKIP (OUTN (NEXT (SEQ (REGION [0] rfl (RUN0 1 [] [(2, B false)] ?_ rfl ?_)))))
          · as_aux_lemma => kernel_rfl
          refine ENDOPS (NEXT (RET (FIN (.bool false) ?_ () ?_ [] ?_)))
          · as_aux_lemma => kernel_rfl
          · simp_all [RV, actOk, noReq, reqEq, allKeep]
          · rfl

theorem iActOk_c (W : World) (a : Act) (a_keep_a : Option Addr) (a_keep_c : Nat) (ha_keep : Rd intL W a_keep_a a.keep) : Spec Tryd.prog W [] 17 #[.agg #[vi a.kind, vi a.req.kind, vi a.req.id, vi a.req.cabin, vi a.req.from', vi a.req.size, vi a.req.tier, vi a.n, .slice a_keep_a a.keep.length a_keep_c]] (RV (.bool (actOk a))) := by
  refine ENTER0 (N := 66) (vs := [.agg #[vi a.kind, vi a.req.kind, vi a.req.id, vi a.req.cabin, vi a.req.from', vi a.req.size, vi a.req.tier, vi a.n, .slice a_keep_a a.keep.length a_keep_c]]) Tryd.func17 rfl rfl (Nat.le_of_ble_eq_true rfl) ?_
  have ha_keep_len := ha_keep.len
  refine SEQ (REGION [0, 1] rfl (RUN 2 [] [(1, .p 0 0)] [(26, [vi a.kind, vi a.req.kind, vi a.req.id, vi a.req.cabin, vi a.req.from', vi a.req.size, vi a.req.tier, vi a.n, .slice a_keep_a a.keep.length a_keep_c])] ?_ rfl ?_))
  · as_aux_lemma => kernel_rfl
  refine ENDOPS (NEXT (SEQ (SEQ (REGION [0, 1, 2, 3, 4, 5, 6, 7, 8, 9, 10, 11, 12, 13, 14, 15, 16, 17, 18, 19, 20, 21, 22, 23, 24, 25, 26, 27, 28, 29] rfl (RUN0 4 [4, 5, 6, 7, 8, 9, 10, 11, 12, 13, 14, 15, 16, 17, 18, 19, 20, 21, 22, 23, 24, 25, 26, 27, 28, 29] [(1, .p 0 0), (8, B (a.kind != 1))] ?_ rfl ?_)))))
  · as_aux_lemma => kernel_rfl
  refine SPLIT (d := 8) (a.kind != 1) ?_ (fun bh1 => ?_) (fun bh1 => ?_)
  · as_aux_lemma => kernel_rfl
  · -- a.kind != 1 = true
    have h1 := bh1
    have h1 := bne_iff_ne.1 h1
    refine RUN0 3 [7, 8, 9, 10, 11, 12, 13, 14, 15, 16, 17, 18, 19, 20, 21, 22, 23, 24, 25, 26, 27, 28, 29] [(1, .p 0 0), (8, B true), (10, .v (.agg #[vi a.req.kind, vi a.req.id, vi a.req.cabin, vi a.req.from', vi a.req.size, vi a.req.tier])), (11, .v (.agg #[vi 0, vi 0, vi 0, vi 0, vi 0, vi 0]))] ?_ rfl ?_
    · as_aux_lemma => kernel_rfl
    refine OPC (RUNV (.binOp .neq 23 (.tmp 10) (.tmp 11) 23) 12 4 ?_ (Nat.le_of_ble_eq_true rfl) (.bool (!((a.req.kind == 0) && ((a.req.id == 0) && ((a.req.cabin == 0) && ((a.req.from' == 0) && ((a.req.size == 0) && ((a.req.tier == 0) && true)))))))) (runs_neq (xs := [vi a.req.kind, vi a.req.id, vi a.req.cabin, vi a.req.from', vi a.req.size, vi a.req.tier]) (ys := [vi 0, vi 0, vi 0, vi 0, vi 0, vi 0]) (r := (a.req.kind == 0) && ((a.req.id == 0) && ((a.req.cabin == 0) && ((a.req.from' == 0) && ((a.req.size == 0) && ((a.req.tier == 0) && true)))))) ?_ ?_ ?_) ?_)
    · as_aux_lemma => kernel_rfl
    · as_aux_lemma => kernel_rfl
    · as_aux_lemma => kernel_rfl
    · as_aux_lemma => kernel_rfl
    refine RUN0 2 [10, 11, 12, 13, 14, 15, 16, 17, 18, 19, 20, 21, 22, 23, 24, 25, 26, 27, 28, 29] [(1, .p 0 0), (14, B (!((a.req.kind == 0) && ((a.req.id == 0) && ((a.req.cabin == 0) && ((a.req.from' == 0) && ((a.req.size == 0) && ((a.req.tier == 0) && true))))))))] ?_ rfl ?_
    · as_aux_lemma => kernel_rfl
    refine SPLIT (d := 14) (!((a.req.kind == 0) && ((a.req.id == 0) && ((a.req.cabin == 0) && ((a.req.from' == 0) && ((a.req.size == 0) && ((a.req.tier == 0) && true))))))) ?_ (fun bh2 => ?_) (fun bh2 => ?_)
    · as_aux_lemma => kernel_rfl
    · -- !((a.req.kind == 0) && ((a.req.id == 0) && ((a.req.cabin == 0) && ((a.req.from' == 0) && ((a.req.siz = true
      have h2 := bh2
      have h2 := notT h2
      refine RUN0 20 [] [(1, .p 0 0), (34, B true)] ?_ rfl ?_
      · as_aux_lemma => kernel_rfl
      refine ENDOPS (NEXT (IFT ?_ ?_))
      · as_aux_lemma => kernel_rfl
      refine SEQ (REGION [0] rfl (RUN0 1 [] [(2, B false)] ?_ rfl ?_))
      · as_aux_lemma => kernel_rfl
      refine ENDOPS (NEXT (RET (PASS trivial (FIN (.bool false) ?_ () ?_ [] ?_))))
      · as_aux_lemma => kernel_rfl
      · (try simp [usedB] at *); simp_all [RV, actOk, noReq, reqEq, allKeep, usedB, List.length_pos_iff]
      · rfl
    · -- !((a.req.kind == 0) && ((a.req.id == 0) && ((a.req.cabin == 0) && ((a.req.from' == 0) && ((a.req.siz = false
      have h2 := bh2
      have h2 := notF h2
      refine RUN0 4 [14, 15, 16, 17, 18, 19, 20, 21, 22, 23, 24, 25, 26, 27, 28, 29] [(1, .p 0 0), (14, B false), (18, B (a.kind != 3))] ?_ rfl ?_
      · as_aux_lemma => kernel_rfl
      refine SPLIT (d := 18) (a.kind != 3) ?_ (fun bh3 => ?_) (fun bh3 => ?_)
      · as_aux_lemma => kernel_rfl
      · -- a.kind != 3 = true
        have h3 := bh3
        have h3 := bne_iff_ne.1 h3
        refine RUN0 6 [20, 21, 22, 23, 24, 25, 26, 27, 28, 29] [(1, .p 0 0), (24, B (a.n != 0))] ?_ rfl ?_
        · as_aux_lemma => kernel_rfl
        refine SPLIT (d := 24) (a.n != 0) ?_ (fun bh4 => ?_) (fun bh4 => ?_)
        · as_aux_lemma => kernel_rfl
        · -- a.n != 0 = true
          have h4 := bh4
          have h4 := bne_iff_ne.1 h4
          refine RUN0 10 [] [(1, .p 0 0), (34, B true)] ?_ rfl ?_
          · as_aux_lemma => kernel_rfl
          refine ENDOPS (NEXT (IFT ?_ ?_))
          · as_aux_lemma => kernel_rfl
          refine SEQ (REGION [0] rfl (RUN0 1 [] [(2, B false)] ?_ rfl ?_))
          · as_aux_lemma => kernel_rfl
          refine ENDOPS (NEXT (RET (PASS trivial (FIN (.bool false) ?_ () ?_ [] ?_))))
          · as_aux_lemma => kernel_rfl
          · (try simp [usedB] at *); simp_all [RV, actOk, noReq, reqEq, allKeep, usedB, List.length_pos_iff]
          · rfl
        · -- a.n != 0 = false
          have h4 := bh4
          have h4 := bneF h4
          refine RUN0 4 [24, 25, 26, 27, 28, 29] [(1, .p 0 0), (24, B false), (28, B (a.kind != 4))] ?_ rfl ?_
          · as_aux_lemma => kernel_rfl
          refine SPLIT (d := 28) (a.kind != 4) ?_ (fun bh5 => ?_) (fun bh5 => ?_)
          · as_aux_lemma => kernel_rfl
          · -- a.kind != 4 = true
            have h5 := bh5
            have h5 := bne_iff_ne.1 h5
            refine RUN0 6 [] [(1, .p 0 0), (34, B (decide ((a.keep.length : Int) > 0)))] ?_ rfl ?_
            · as_aux_lemma => kernel_rfl
            refine ENDOPS (NEXT (IF (decide ((a.keep.length : Int) > 0)) ?_ (fun bh6 => ?_) (fun bh6 => ?_)))
            · as_aux_lemma => kernel_rfl
            · -- decide ((a.keep.length : Int) > 0) = true
              have h6 := bh6
              have h6 := of_decide_eq_true h6
              refine SEQ (REGION [0] rfl (RUN0 1 [] [(2, B false)] ?_ rfl ?_))
              · as_aux_lemma => kernel_rfl
              refine ENDOPS (NEXT (RET (PASS trivial (FIN (.bool false) ?_ () ?_ [] ?_))))
              · as_aux_lemma => kernel_rfl
              · (try simp [usedB] at *); simp_all [RV, actOk, noReq, reqEq, allKeep, usedB, List.length_pos_iff]
              · rfl
            · -- decide ((a.keep.length : Int) > 0) = false
              have h6 := bh6
              have h6 := of_decide_eq_false h6
              refine SKIP (NEXT (SEQ (SEQ (REGION [0, 1] rfl (RUN0 2 [] [(1, .p 0 0), (36, I a.kind)] ?_ rfl ?_)))))
              · as_aux_lemma => kernel_rfl
              refine ENDOPS (NEXT (BLOCK (SEQ (REGION [0, 1] rfl (RUN0 2 [] [(1, .p 0 0), (36, I a.kind), (37, B (a.kind == 1))] ?_ rfl ?_)))))
              · as_aux_lemma => kernel_rfl
              refine ENDOPS (NEXT (IF (a.kind == 1) ?_ (fun bh7 => ?_) (fun bh7 => ?_)))
              · as_aux_lemma => kernel_rfl
              · -- a.kind == 1 = true
                have h7 := bh7
                have h7 := eq_of_beq h7
                refine SEQ (REGION [0, 1, 2, 3] rfl (RUN0 2 [2, 3] [(40, .v (.agg #[vi a.req.kind, vi a.req.id, vi a.req.cabin, vi a.req.from', vi a.req.size, vi a.req.tier]))] ?_ rfl ?_))
                · as_aux_lemma => kernel_rfl
                refine OPC (CALL 29 #[.agg #[vi a.req.kind, vi a.req.id, vi a.req.cabin, vi a.req.from', vi a.req.size, vi a.req.tier]] (some 41) ?_ [] [] _ rfl (RV (.bool (reqOk a.req))) (fun w hw => iReqOk_c w a.req) (by rintro _ ⟨⟩; exact Nat.le_of_ble_eq_true rfl) ?_)
                · as_aux_lemma => kernel_rfl
                rintro ⟨⟩
                refine RUN0 1 [] [(2, B (reqOk a.req))] ?_ rfl ?_
                · as_aux_lemma => kernel_rfl
                refine ENDOPS (NEXT (RET (OUTR (PASS trivial (FIN (.bool (reqOk a.req)) ?_ () ?_ [] ?_)))))
                · as_aux_lemma => kernel_rfl
                · (try simp [usedB] at *); simp_all [RV, actOk, noReq, reqEq, allKeep, usedB, List.length_pos_iff]
                · rfl
              · -- a.kind == 1 = false
                have h7 := bh7
                have h7 := ne_of_beq_false h7
                refine SEQ (REGION [0, 1] rfl (RUN0 2 [] [(1, .p 0 0), (36, I a.kind), (42, B (a.kind == 2))] ?_ rfl ?_))
                · as_aux_lemma => kernel_rfl
                refine ENDOPS (NEXT (IF (a.kind == 2) ?_ (fun bh8 => ?_) (fun bh8 => ?_)))
                · as_aux_lemma => kernel_rfl
                · -- a.kind == 2 = true
                  have h8 := bh8
                  have h8 := eq_of_beq h8
                  refine SEQ (REGION [0] rfl (RUN0 1 [] [(2, B true)] ?_ rfl ?_))
                  · as_aux_lemma => kernel_rfl
                  refine ENDOPS (NEXT (RET (OUTR (PASS trivial (FIN (.bool true) ?_ () ?_ [] ?_)))))
                  · as_aux_lemma => kernel_rfl
                  · (try simp [usedB] at *); simp_all [RV, actOk, noReq, reqEq, allKeep, usedB, List.length_pos_iff]
                  · rfl
                · -- a.kind == 2 = false
                  have h8 := bh8
                  have h8 := ne_of_beq_false h8
                  refine SEQ (REGION [0, 1] rfl (RUN0 2 [] [(1, .p 0 0), (36, I a.kind), (44, B (a.kind == 3))] ?_ rfl ?_))
                  · as_aux_lemma => kernel_rfl
                  refine ENDOPS (NEXT (IF (a.kind == 3) ?_ (fun bh9 => ?_) (fun bh9 => ?_)))
                  · as_aux_lemma => kernel_rfl
                  · -- a.kind == 3 = true
                    have h9 := bh9
                    have h9 := eq_of_beq h9
                    refine SEQ (REGION [0, 1, 2, 3] rfl (RUN0 2 [2, 3] [(47, I a.n)] ?_ rfl ?_))
                    · as_aux_lemma => kernel_rfl
                    refine OPC (CALL 33 #[vi a.n, vi 0, vi 9999] (some 48) ?_ [] [] _ rfl (RV (.bool (inB a.n 0 9999))) (fun w hw => within_c w a.n 0 9999) (by rintro _ ⟨⟩; exact Nat.le_of_ble_eq_true rfl) ?_)
                    · as_aux_lemma => kernel_rfl
                    rintro ⟨⟩
                    refine RUN0 1 [] [(2, B (inB a.n 0 9999))] ?_ rfl ?_
                    · as_aux_lemma => kernel_rfl
                    refine ENDOPS (NEXT (RET (OUTR (PASS trivial (FIN (.bool (inB a.n 0 9999)) ?_ () ?_ [] ?_)))))
                    · as_aux_lemma => kernel_rfl
                    · (try simp [usedB] at *); simp_all [RV, actOk, noReq, reqEq, allKeep, usedB, List.length_pos_iff]
                    · rfl
                  · -- a.kind == 3 = false
                    have h9 := bh9
                    have h9 := ne_of_beq_false h9
                    refine SEQ (REGION [0, 1] rfl (RUN0 2 [] [(1, .p 0 0), (49, B (a.kind == 4))] ?_ rfl ?_))
                    · as_aux_lemma => kernel_rfl
                    refine ENDOPS (NEXT (IF (a.kind == 4) ?_ (fun bh10 => ?_) (fun bh10 => ?_)))
                    · as_aux_lemma => kernel_rfl
                    · -- a.kind == 4 = true
                      have h10 := bh10
                      have h10 := eq_of_beq h10
                      refine SEQ (SEQ (REGION [0, 1, 2, 3] rfl (RUN0 4 [] [(1, .p 0 0), (52, .v (.slice a_keep_a a.keep.length a_keep_c)), (53, I (a.keep.length : Int)), (54, I 0)] ?_ rfl ?_)))
                      · as_aux_lemma => kernel_rfl
                      refine ENDOPS (NEXT (BLOCK (LOOP (ι := Nat × (List Int)) (fun j => [(1, .p 0 0), (52, .v (.slice a_keep_a a.keep.length a_keep_c)), (53, I (a.keep.length : Int)), (54, I (j.1 : Int))]) (fun j => [(26, [vi a.kind, vi a.req.kind, vi a.req.id, vi a.req.cabin, vi a.req.from', vi a.req.size, vi a.req.tier, vi a.n, .slice a_keep_a a.keep.length a_keep_c])]) (fun j => []) (fun j => j.1 + j.2.length = a.keep.length ∧ a.keep.drop j.1 = j.2 ∧ allKeep a.keep = allKeep j.2) (fun j => j.2.length) (0, a.keep) [1, 52, 53, 54] ⟨by simp, rfl, rfl⟩ ?_ rfl rfl ?_)))
                      · as_aux_lemma => kernel_rfl
                      rintro ⟨k, ys⟩ ⟨hk, hd, hv0⟩
                      dsimp only at hk hd hv0
                      refine SEQ (REGION [0] rfl (RUN0 1 [] [(1, .p 0 0), (52, .v (.slice a_keep_a a.keep.length a_keep_c)), (53, I (a.keep.length : Int)), (54, I (k : Int)), (55, B (decide ((k : Int) < (a.keep.length : Int))))] ?_ rfl ?_))
                      · as_aux_lemma => kernel_rfl
                      refine ENDOPS (NEXT (SEQ (IF (decide ((k : Int) < (a.keep.length : Int))) ?_ (fun bh11 => ?_) (fun bh11 => ?_))))
                      · as_aux_lemma => kernel_rfl
                      · -- decide ((k : Int) < (a.keep.length : Int)) = true
                        have h11 := bh11
                        have h11 := of_decide_eq_true h11
                        obtain ⟨y12, ys13, rfl, hx_y12, hd_y12, hl_y12⟩ := drop_cons hd hk (by omega)
                        refine SKIP (NEXT (SEQ (BLOCK (SEQ (REGION [0, 1, 2] rfl (OPC (INDEX 24 (.tmp 52) (.tmp 54) 56 0 ?_ (Nat.le_of_ble_eq_true rfl) a_keep_a a.keep.length a_keep_c .i64 (k : Int) 3 1 ?_ ?_ ?_ ?_ (Rd.some ha_keep (by omega)) (by omega) (by omega) ?_)))))))
                        · as_aux_lemma => kernel_rfl
                        · as_aux_lemma => kernel_rfl
                        · as_aux_lemma => kernel_rfl
                        · as_aux_lemma => kernel_rfl
                        · as_aux_lemma => kernel_rfl
                        refine OPC (LOADE 3 (.tmp 56) 57 3 ?_ (Nat.le_of_ble_eq_true rfl) a_keep_a (k * 1) 0 [vi y12] (vi y12) ?_ (fun w hw => (ha_keep.fr hw.fr).flat hx_y12) ?_ ?_)
                        · as_aux_lemma => kernel_rfl
                        · as_aux_lemma => kernel_rfl
                        · as_aux_lemma => kernel_rfl
                        refine RUN0 1 [] [(1, .p 0 0), (4, I y12), (52, .v (.slice a_keep_a a.keep.length a_keep_c)), (53, I (a.keep.length : Int)), (54, I (k : Int))] ?_ rfl ?_
                        · as_aux_lemma => kernel_rfl
                        refine ENDOPS (NEXT (SEQ (REGION [0, 1, 2] rfl (RUN0 1 [1, 2] [(1, .p 0 0), (52, .v (.slice a_keep_a a.keep.length a_keep_c)), (53, I (a.keep.length : Int)), (54, I (k : Int)), (58, I y12)] ?_ rfl ?_))))
                        · as_aux_lemma => kernel_rfl
                        refine OPC (CALL 33 #[vi y12, vi 0, vi 20000] (some 59) ?_ [] [] _ rfl (RV (.bool (inB y12 0 20000))) (fun w hw => within_c w y12 0 20000) (by rintro _ ⟨⟩; exact Nat.le_of_ble_eq_true rfl) ?_)
                        · as_aux_lemma => kernel_rfl
                        rintro ⟨⟩
                        refine RUN0 1 [] [(1, .p 0 0), (52, .v (.slice a_keep_a a.keep.length a_keep_c)), (53, I (a.keep.length : Int)), (54, I (k : Int)), (60, B (!(inB y12 0 20000)))] ?_ rfl ?_
                        · as_aux_lemma => kernel_rfl
                        refine ENDOPS (NEXT (IF (!(inB y12 0 20000)) ?_ (fun bh14 => ?_) (fun bh14 => ?_)))
                        · as_aux_lemma => kernel_rfl
                        · -- !(inB y12 0 20000) = true
                          have h14 := bh14
                          have h14 := notT h14
                          refine SEQ (REGION [0] rfl (RUN0 1 [] [(2, B false)] ?_ rfl ?_))
                          · as_aux_lemma => kernel_rfl
                          refine ENDOPS (NEXT (RET (OUTR (PASS trivial (PASS trivial (OUTR (PASS trivial (OUTR (PASS trivial (FIN (.bool false) ?_ () ?_ [] ?_))))))))))
                          · as_aux_lemma => kernel_rfl
                          · (try simp [usedB] at *); simp_all [RV, actOk, noReq, reqEq, allKeep, usedB, List.length_pos_iff]
                          · rfl
                        · -- !(inB y12 0 20000) = false
                          have h14 := bh14
                          have h14 := notF h14
                          refine SKIP (OUTN (NEXT (REGION [0, 1] rfl (RUN0 1 [1] [(1, .p 0 0), (52, .v (.slice a_keep_a a.keep.length a_keep_c)), (53, I (a.keep.length : Int)), (61, I (wr ((k : Int) + 1)))] ?_ rfl ?_))))
                          · as_aux_lemma => kernel_rfl
                          refine CAST (d := 61) (vi (wr ((k : Int) + 1))) (vi ((k + 1 : Nat) : Int)) ?_ (vi_cast (by omega) (by omega)) ?_
                          · as_aux_lemma => kernel_rfl
                          refine RUN0 1 [] [(1, .p 0 0), (52, .v (.slice a_keep_a a.keep.length a_keep_c)), (53, I (a.keep.length : Int)), (54, I ((k + 1 : Nat) : Int))] ?_ rfl ?_
                          · as_aux_lemma => kernel_rfl
                          refine ENDOPS (BACK (k + 1, ys13) [1, 52, 53, 54] 1 [] _ ⟨hl_y12, hd_y12, hv0.trans (by simp [allKeep, *])⟩ (by simp) ?_ rfl rfl rfl)
                          · as_aux_lemma => kernel_rfl
                      · -- decide ((k : Int) < (a.keep.length : Int)) = false
                        have h11 := bh11
                        have h11 := of_decide_eq_false h11
                        obtain rfl := drop_nil hk (by omega)
                        refine EXIT (PASS trivial (PASS trivial (OUT (NEXT (SEQ (REGION [0, 1, 2, 3, 4] rfl (RUN0 5 [] [(2, B (decide ((a.keep.length : Int) ≤ 3)))] ?_ rfl ?_)))))))
                        · as_aux_lemma => kernel_rfl
                        refine ENDOPS (NEXT (RET (OUTR (PASS trivial (FIN (.bool (decide ((a.keep.length : Int) ≤ 3))) ?_ () ?_ [] ?_)))))
                        · as_aux_lemma => kernel_rfl
                        · (try simp [usedB] at *); simp_all [RV, actOk, noReq, reqEq, allKeep, usedB, List.length_pos_iff]
                        · rfl
                    · -- a.kind == 4 = false
                      have h10 := bh10
                      have h10 := ne_of_beq_false h10
                      refine SKIP (OUTN (NEXT (SEQ (REGION [0] rfl (RUN0 1 [] [(2, B false)] ?_ rfl ?_)))))
                      · as_aux_lemma => kernel_rfl
                      refine ENDOPS (NEXT (RET (FIN (.bool false) ?_ () ?_ [] ?_)))
                      · as_aux_lemma => kernel_rfl
                      · (try simp [usedB] at *); simp_all [RV, actOk, noReq, reqEq, allKeep, usedB, List.length_pos_iff]
                      · rfl
          · -- a.kind != 4 = false
            have h5 := bh5
            have h5 := bneF h5
            refine RUN0 6 [] [(1, .p 0 0), (34, B false)] ?_ rfl ?_
            · as_aux_lemma => kernel_rfl
            refine ENDOPS (NEXT (IFF ?_ ?_))
            · as_aux_lemma => kernel_rfl
            refine SKIP (NEXT (SEQ (SEQ (REGION [0, 1] rfl (RUN0 2 [] [(1, .p 0 0), (36, I a.kind)] ?_ rfl ?_)))))
            · as_aux_lemma => kernel_rfl
            refine ENDOPS (NEXT (BLOCK (SEQ (REGION [0, 1] rfl (RUN0 2 [] [(1, .p 0 0), (36, I a.kind), (37, B (a.kind == 1))] ?_ rfl ?_)))))
            · as_aux_lemma => kernel_rfl
            refine ENDOPS (NEXT (IF (a.kind == 1) ?_ (fun bh15 => ?_) (fun bh15 => ?_)))
            · as_aux_lemma => kernel_rfl
            · -- a.kind == 1 = true
              have h15 := bh15
              have h15 := eq_of_beq h15
              refine SEQ (REGION [0, 1, 2, 3] rfl (RUN0 2 [2, 3] [(40, .v (.agg #[vi a.req.kind, vi a.req.id, vi a.req.cabin, vi a.req.from', vi a.req.size, vi a.req.tier]))] ?_ rfl ?_))
              · as_aux_lemma => kernel_rfl
              refine OPC (CALL 29 #[.agg #[vi a.req.kind, vi a.req.id, vi a.req.cabin, vi a.req.from', vi a.req.size, vi a.req.tier]] (some 41) ?_ [] [] _ rfl (RV (.bool (reqOk a.req))) (fun w hw => iReqOk_c w a.req) (by rintro _ ⟨⟩; exact Nat.le_of_ble_eq_true rfl) ?_)
              · as_aux_lemma => kernel_rfl
              rintro ⟨⟩
              refine RUN0 1 [] [(2, B (reqOk a.req))] ?_ rfl ?_
              · as_aux_lemma => kernel_rfl
              refine ENDOPS (NEXT (RET (OUTR (PASS trivial (FIN (.bool (reqOk a.req)) ?_ () ?_ [] ?_)))))
              · as_aux_lemma => kernel_rfl
              · (try simp [usedB] at *); simp_all [RV, actOk, noReq, reqEq, allKeep, usedB, List.length_pos_iff]
              · rfl
            · -- a.kind == 1 = false
              have h15 := bh15
              have h15 := ne_of_beq_false h15
              refine SEQ (REGION [0, 1] rfl (RUN0 2 [] [(1, .p 0 0), (36, I a.kind), (42, B (a.kind == 2))] ?_ rfl ?_))
              · as_aux_lemma => kernel_rfl
              refine ENDOPS (NEXT (IF (a.kind == 2) ?_ (fun bh16 => ?_) (fun bh16 => ?_)))
              · as_aux_lemma => kernel_rfl
              · -- a.kind == 2 = true
                have h16 := bh16
                have h16 := eq_of_beq h16
                refine SEQ (REGION [0] rfl (RUN0 1 [] [(2, B true)] ?_ rfl ?_))
                · as_aux_lemma => kernel_rfl
                refine ENDOPS (NEXT (RET (OUTR (PASS trivial (FIN (.bool true) ?_ () ?_ [] ?_)))))
                · as_aux_lemma => kernel_rfl
                · (try simp [usedB] at *); simp_all [RV, actOk, noReq, reqEq, allKeep, usedB, List.length_pos_iff]
                · rfl
              · -- a.kind == 2 = false
                have h16 := bh16
                have h16 := ne_of_beq_false h16
                refine SEQ (REGION [0, 1] rfl (RUN0 2 [] [(1, .p 0 0), (36, I a.kind), (44, B (a.kind == 3))] ?_ rfl ?_))
                · as_aux_lemma => kernel_rfl
                refine ENDOPS (NEXT (IF (a.kind == 3) ?_ (fun bh17 => ?_) (fun bh17 => ?_)))
                · as_aux_lemma => kernel_rfl
                · -- a.kind == 3 = true
                  have h17 := bh17
                  have h17 := eq_of_beq h17
                  refine SEQ (REGION [0, 1, 2, 3] rfl (RUN0 2 [2, 3] [(47, I a.n)] ?_ rfl ?_))
                  · as_aux_lemma => kernel_rfl
                  refine OPC (CALL 33 #[vi a.n, vi 0, vi 9999] (some 48) ?_ [] [] _ rfl (RV (.bool (inB a.n 0 9999))) (fun w hw => within_c w a.n 0 9999) (by rintro _ ⟨⟩; exact Nat.le_of_ble_eq_true rfl) ?_)
                  · as_aux_lemma => kernel_rfl
                  rintro ⟨⟩
                  refine RUN0 1 [] [(2, B (inB a.n 0 9999))] ?_ rfl ?_
                  · as_aux_lemma => kernel_rfl
                  refine ENDOPS (NEXT (RET (OUTR (PASS trivial (FIN (.bool (inB a.n 0 9999)) ?_ () ?_ [] ?_)))))
                  · as_aux_lemma => kernel_rfl
                  · (try simp [usedB] at *); simp_all [RV, actOk, noReq, reqEq, allKeep, usedB, List.length_pos_iff]
                  · rfl
                · -- a.kind == 3 = false
                  have h17 := bh17
                  have h17 := ne_of_beq_false h17
                  refine SEQ (REGION [0, 1] rfl (RUN0 2 [] [(1, .p 0 0), (49, B (a.kind == 4))] ?_ rfl ?_))
                  · as_aux_lemma => kernel_rfl
                  refine ENDOPS (NEXT (IF (a.kind == 4) ?_ (fun bh18 => ?_) (fun bh18 => ?_)))
                  · as_aux_lemma => kernel_rfl
                  · -- a.kind == 4 = true
                    have h18 := bh18
                    have h18 := eq_of_beq h18
                    refine SEQ (SEQ (REGION [0, 1, 2, 3] rfl (RUN0 4 [] [(1, .p 0 0), (52, .v (.slice a_keep_a a.keep.length a_keep_c)), (53, I (a.keep.length : Int)), (54, I 0)] ?_ rfl ?_)))
                    · as_aux_lemma => kernel_rfl
                    refine ENDOPS (NEXT (BLOCK (LOOP (ι := Nat × (List Int)) (fun j => [(1, .p 0 0), (52, .v (.slice a_keep_a a.keep.length a_keep_c)), (53, I (a.keep.length : Int)), (54, I (j.1 : Int))]) (fun j => [(26, [vi a.kind, vi a.req.kind, vi a.req.id, vi a.req.cabin, vi a.req.from', vi a.req.size, vi a.req.tier, vi a.n, .slice a_keep_a a.keep.length a_keep_c])]) (fun j => []) (fun j => j.1 + j.2.length = a.keep.length ∧ a.keep.drop j.1 = j.2 ∧ allKeep a.keep = allKeep j.2) (fun j => j.2.length) (0, a.keep) [1, 52, 53, 54] ⟨by simp, rfl, rfl⟩ ?_ rfl rfl ?_)))
                    · as_aux_lemma => kernel_rfl
                    rintro ⟨k, ys⟩ ⟨hk, hd, hv0⟩
                    dsimp only at hk hd hv0
                    refine SEQ (REGION [0] rfl (RUN0 1 [] [(1, .p 0 0), (52, .v (.slice a_keep_a a.keep.length a_keep_c)), (53, I (a.keep.length : Int)), (54, I (k : Int)), (55, B (decide ((k : Int) < (a.keep.length : Int))))] ?_ rfl ?_))
                    · as_aux_lemma => kernel_rfl
                    refine ENDOPS (NEXT (SEQ (IF (decide ((k : Int) < (a.keep.length : Int))) ?_ (fun bh19 => ?_) (fun bh19 => ?_))))
                    · as_aux_lemma => kernel_rfl
                    · -- decide ((k : Int) < (a.keep.length : Int)) = true
                      have h19 := bh19
                      have h19 := of_decide_eq_true h19
                      obtain ⟨y20, ys21, rfl, hx_y20, hd_y20, hl_y20⟩ := drop_cons hd hk (by omega)
                      refine SKIP (NEXT (SEQ (BLOCK (SEQ (REGION [0, 1, 2] rfl (OPC (INDEX 24 (.tmp 52) (.tmp 54) 56 0 ?_ (Nat.le_of_ble_eq_true rfl) a_keep_a a.keep.length a_keep_c .i64 (k : Int) 3 1 ?_ ?_ ?_ ?_ (Rd.some ha_keep (by omega)) (by omega) (by omega) ?_)))))))
                      · as_aux_lemma => kernel_rfl
                      · as_aux_lemma => kernel_rfl
                      · as_aux_lemma => kernel_rfl
                      · as_aux_lemma => kernel_rfl
                      · as_aux_lemma => kernel_rfl
                      refine OPC (LOADE 3 (.tmp 56) 57 3 ?_ (Nat.le_of_ble_eq_true rfl) a_keep_a (k * 1) 0 [vi y20] (vi y20) ?_ (fun w hw => (ha_keep.fr hw.fr).flat hx_y20) ?_ ?_)
                      · as_aux_lemma => kernel_rfl
                      · as_aux_lemma => kernel_rfl
                      · as_aux_lemma => kernel_rfl
                      refine RUN0 1 [] [(1, .p 0 0), (4, I y20), (52, .v (.slice a_keep_a a.keep.length a_keep_c)), (53, I (a.keep.length : Int)), (54, I (k : Int))] ?_ rfl ?_
                      · as_aux_lemma => kernel_rfl
                      refine ENDOPS (NEXT (SEQ (REGION [0, 1, 2] rfl (RUN0 1 [1, 2] [(1, .p 0 0), (52, .v (.slice a_keep_a a.keep.length a_keep_c)), (53, I (a.keep.length : Int)), (54, I (k : Int)), (58, I y20)] ?_ rfl ?_))))
                      · as_aux_lemma => kernel_rfl
                      refine OPC (CALL 33 #[vi y20, vi 0, vi 20000] (some 59) ?_ [] [] _ rfl (RV (.bool (inB y20 0 20000))) (fun w hw => within_c w y20 0 20000) (by rintro _ ⟨⟩; exact Nat.le_of_ble_eq_true rfl) ?_)
                      · as_aux_lemma => kernel_rfl
                      rintro ⟨⟩
                      refine RUN0 1 [] [(1, .p 0 0), (52, .v (.slice a_keep_a a.keep.length a_keep_c)), (53, I (a.keep.length : Int)), (54, I (k : Int)), (60, B (!(inB y20 0 20000)))] ?_ rfl ?_
                      · as_aux_lemma => kernel_rfl
                      refine ENDOPS (NEXT (IF (!(inB y20 0 20000)) ?_ (fun bh22 => ?_) (fun bh22 => ?_)))
                      · as_aux_lemma => kernel_rfl
                      · -- !(inB y20 0 20000) = true
                        have h22 := bh22
                        have h22 := notT h22
                        refine SEQ (REGION [0] rfl (RUN0 1 [] [(2, B false)] ?_ rfl ?_))
                        · as_aux_lemma => kernel_rfl
                        refine ENDOPS (NEXT (RET (OUTR (PASS trivial (PASS trivial (OUTR (PASS trivial (OUTR (PASS trivial (FIN (.bool false) ?_ () ?_ [] ?_))))))))))
                        · as_aux_lemma => kernel_rfl
                        · (try simp [usedB] at *); simp_all [RV, actOk, noReq, reqEq, allKeep, usedB, List.length_pos_iff]
                        · rfl
                      · -- !(inB y20 0 20000) = false
                        have h22 := bh22
                        have h22 := notF h22
                        refine SKIP (OUTN (NEXT (REGION [0, 1] rfl (RUN0 1 [1] [(1, .p 0 0), (52, .v (.slice a_keep_a a.keep.length a_keep_c)), (53, I (a.keep.length : Int)), (61, I (wr ((k : Int) + 1)))] ?_ rfl ?_))))
                        · as_aux_lemma => kernel_rfl
                        refine CAST (d := 61) (vi (wr ((k : Int) + 1))) (vi ((k + 1 : Nat) : Int)) ?_ (vi_cast (by omega) (by omega)) ?_
                        · as_aux_lemma => kernel_rfl
                        refine RUN0 1 [] [(1, .p 0 0), (52, .v (.slice a_keep_a a.keep.length a_keep_c)), (53, I (a.keep.length : Int)), (54, I ((k + 1 : Nat) : Int))] ?_ rfl ?_
                        · as_aux_lemma => kernel_rfl
                        refine ENDOPS (BACK (k + 1, ys21) [1, 52, 53, 54] 1 [] _ ⟨hl_y20, hd_y20, hv0.trans (by simp [allKeep, *])⟩ (by simp) ?_ rfl rfl rfl)
                        · as_aux_lemma => kernel_rfl
                    · -- decide ((k : Int) < (a.keep.length : Int)) = false
                      have h19 := bh19
                      have h19 := of_decide_eq_false h19
                      obtain rfl := drop_nil hk (by omega)
                      refine EXIT (PASS trivial (PASS trivial (OUT (NEXT (SEQ (REGION [0, 1, 2, 3, 4] rfl (RUN0 5 [] [(2, B (decide ((a.keep.length : Int) ≤ 3)))] ?_ rfl ?_)))))))
                      · as_aux_lemma => kernel_rfl
                      refine ENDOPS (NEXT (RET (OUTR (PASS trivial (FIN (.bool (decide ((a.keep.length : Int) ≤ 3))) ?_ () ?_ [] ?_)))))
                      · as_aux_lemma => kernel_rfl
                      · (try simp [usedB] at *); simp_all [RV, actOk, noReq, reqEq, allKeep, usedB, List.length_pos_iff]
                      · rfl
                  · -- a.kind == 4 = false
                    have h18 := bh18
                    have h18 := ne_of_beq_false h18
                    refine SKIP (OUTN (NEXT (SEQ (REGION [0] rfl (RUN0 1 [] [(2, B false)] ?_ rfl ?_)))))
                    · as_aux_lemma => kernel_rfl
                    refine ENDOPS (NEXT (RET (FIN (.bool false) ?_ () ?_ [] ?_)))
                    · as_aux_lemma => kernel_rfl
                    · (try simp [usedB] at *); simp_all [RV, actOk, noReq, reqEq, allKeep, usedB, List.length_pos_iff]
                    · rfl
      · -- a.kind != 3 = false
        have h3 := bh3
        have h3 := bneF h3
        refine RUN0 10 [24, 25, 26, 27, 28, 29] [(1, .p 0 0), (24, B false), (28, B (a.kind != 4))] ?_ rfl ?_
        · as_aux_lemma => kernel_rfl
        refine SPLIT (d := 28) (a.kind != 4) ?_ (fun bh23 => ?_) (fun bh23 => ?_)
        · as_aux_lemma => kernel_rfl
        · -- a.kind != 4 = true
          have h23 := bh23
          have h23 := bne_iff_ne.1 h23
          refine RUN0 6 [] [(1, .p 0 0), (34, B (decide ((a.keep.length : Int) > 0)))] ?_ rfl ?_
          · as_aux_lemma => kernel_rfl
          refine ENDOPS (NEXT (IF (decide ((a.keep.length : Int) > 0)) ?_ (fun bh24 => ?_) (fun bh24 => ?_)))
          · as_aux_lemma => kernel_rfl
          · -- decide ((a.keep.length : Int) > 0) = true
            have h24 := bh24
            have h24 := of_decide_eq_true h24
            refine SEQ (REGION [0] rfl (RUN0 1 [] [(2, B false)] ?_ rfl ?_))
            · as_aux_lemma => kernel_rfl
            refine ENDOPS (NEXT (RET (PASS trivial (FIN (.bool false) ?_ () ?_ [] ?_))))
            · as_aux_lemma => kernel_rfl
            · (try simp [usedB] at *); simp_all [RV, actOk, noReq, reqEq, allKeep, usedB, List.length_pos_iff]
            · rfl
          · -- decide ((a.keep.length : Int) > 0) = false
            have h24 := bh24
            have h24 := of_decide_eq_false h24
            refine SKIP (NEXT (SEQ (SEQ (REGION [0, 1] rfl (RUN0 2 [] [(1, .p 0 0), (36, I a.kind)] ?_ rfl ?_)))))
            · as_aux_lemma => kernel_rfl
            refine ENDOPS (NEXT (BLOCK (SEQ (REGION [0, 1] rfl (RUN0 2 [] [(1, .p 0 0), (36, I a.kind), (37, B (a.kind == 1))] ?_ rfl ?_)))))
            · as_aux_lemma => kernel_rfl
            refine ENDOPS (NEXT (IF (a.kind == 1) ?_ (fun bh25 => ?_) (fun bh25 => ?_)))
            · as_aux_lemma => kernel_rfl
            · -- a.kind == 1 = true
              have h25 := bh25
              have h25 := eq_of_beq h25
              refine SEQ (REGION [0, 1, 2, 3] rfl (RUN0 2 [2, 3] [(40, .v (.agg #[vi a.req.kind, vi a.req.id, vi a.req.cabin, vi a.req.from', vi a.req.size, vi a.req.tier]))] ?_ rfl ?_))
              · as_aux_lemma => kernel_rfl
              refine OPC (CALL 29 #[.agg #[vi a.req.kind, vi a.req.id, vi a.req.cabin, vi a.req.from', vi a.req.size, vi a.req.tier]] (some 41) ?_ [] [] _ rfl (RV (.bool (reqOk a.req))) (fun w hw => iReqOk_c w a.req) (by rintro _ ⟨⟩; exact Nat.le_of_ble_eq_true rfl) ?_)
              · as_aux_lemma => kernel_rfl
              rintro ⟨⟩
              refine RUN0 1 [] [(2, B (reqOk a.req))] ?_ rfl ?_
              · as_aux_lemma => kernel_rfl
              refine ENDOPS (NEXT (RET (OUTR (PASS trivial (FIN (.bool (reqOk a.req)) ?_ () ?_ [] ?_)))))
              · as_aux_lemma => kernel_rfl
              · (try simp [usedB] at *); simp_all [RV, actOk, noReq, reqEq, allKeep, usedB, List.length_pos_iff]
              · rfl
            · -- a.kind == 1 = false
              have h25 := bh25
              have h25 := ne_of_beq_false h25
              refine SEQ (REGION [0, 1] rfl (RUN0 2 [] [(1, .p 0 0), (36, I a.kind), (42, B (a.kind == 2))] ?_ rfl ?_))
              · as_aux_lemma => kernel_rfl
              refine ENDOPS (NEXT (IF (a.kind == 2) ?_ (fun bh26 => ?_) (fun bh26 => ?_)))
              · as_aux_lemma => kernel_rfl
              · -- a.kind == 2 = true
                have h26 := bh26
                have h26 := eq_of_beq h26
                refine SEQ (REGION [0] rfl (RUN0 1 [] [(2, B true)] ?_ rfl ?_))
                · as_aux_lemma => kernel_rfl
                refine ENDOPS (NEXT (RET (OUTR (PASS trivial (FIN (.bool true) ?_ () ?_ [] ?_)))))
                · as_aux_lemma => kernel_rfl
                · (try simp [usedB] at *); simp_all [RV, actOk, noReq, reqEq, allKeep, usedB, List.length_pos_iff]
                · rfl
              · -- a.kind == 2 = false
                have h26 := bh26
                have h26 := ne_of_beq_false h26
                refine SEQ (REGION [0, 1] rfl (RUN0 2 [] [(1, .p 0 0), (36, I a.kind), (44, B (a.kind == 3))] ?_ rfl ?_))
                · as_aux_lemma => kernel_rfl
                refine ENDOPS (NEXT (IF (a.kind == 3) ?_ (fun bh27 => ?_) (fun bh27 => ?_)))
                · as_aux_lemma => kernel_rfl
                · -- a.kind == 3 = true
                  have h27 := bh27
                  have h27 := eq_of_beq h27
                  refine SEQ (REGION [0, 1, 2, 3] rfl (RUN0 2 [2, 3] [(47, I a.n)] ?_ rfl ?_))
                  · as_aux_lemma => kernel_rfl
                  refine OPC (CALL 33 #[vi a.n, vi 0, vi 9999] (some 48) ?_ [] [] _ rfl (RV (.bool (inB a.n 0 9999))) (fun w hw => within_c w a.n 0 9999) (by rintro _ ⟨⟩; exact Nat.le_of_ble_eq_true rfl) ?_)
                  · as_aux_lemma => kernel_rfl
                  rintro ⟨⟩
                  refine RUN0 1 [] [(2, B (inB a.n 0 9999))] ?_ rfl ?_
                  · as_aux_lemma => kernel_rfl
                  refine ENDOPS (NEXT (RET (OUTR (PASS trivial (FIN (.bool (inB a.n 0 9999)) ?_ () ?_ [] ?_)))))
                  · as_aux_lemma => kernel_rfl
                  · (try simp [usedB] at *); simp_all [RV, actOk, noReq, reqEq, allKeep, usedB, List.length_pos_iff]
                  · rfl
                · -- a.kind == 3 = false
                  have h27 := bh27
                  have h27 := ne_of_beq_false h27
                  refine SEQ (REGION [0, 1] rfl (RUN0 2 [] [(1, .p 0 0), (49, B (a.kind == 4))] ?_ rfl ?_))
                  · as_aux_lemma => kernel_rfl
                  refine ENDOPS (NEXT (IF (a.kind == 4) ?_ (fun bh28 => ?_) (fun bh28 => ?_)))
                  · as_aux_lemma => kernel_rfl
                  · -- a.kind == 4 = true
                    have h28 := bh28
                    have h28 := eq_of_beq h28
                    refine SEQ (SEQ (REGION [0, 1, 2, 3] rfl (RUN0 4 [] [(1, .p 0 0), (52, .v (.slice a_keep_a a.keep.length a_keep_c)), (53, I (a.keep.length : Int)), (54, I 0)] ?_ rfl ?_)))
                    · as_aux_lemma => kernel_rfl
                    refine ENDOPS (NEXT (BLOCK (LOOP (ι := Nat × (List Int)) (fun j => [(1, .p 0 0), (52, .v (.slice a_keep_a a.keep.length a_keep_c)), (53, I (a.keep.length : Int)), (54, I (j.1 : Int))]) (fun j => [(26, [vi a.kind, vi a.req.kind, vi a.req.id, vi a.req.cabin, vi a.req.from', vi a.req.size, vi a.req.tier, vi a.n, .slice a_keep_a a.keep.length a_keep_c])]) (fun j => []) (fun j => j.1 + j.2.length = a.keep.length ∧ a.keep.drop j.1 = j.2 ∧ allKeep a.keep = allKeep j.2) (fun j => j.2.length) (0, a.keep) [1, 52, 53, 54] ⟨by simp, rfl, rfl⟩ ?_ rfl rfl ?_)))
                    · as_aux_lemma => kernel_rfl
                    rintro ⟨k, ys⟩ ⟨hk, hd, hv0⟩
                    dsimp only at hk hd hv0
                    refine SEQ (REGION [0] rfl (RUN0 1 [] [(1, .p 0 0), (52, .v (.slice a_keep_a a.keep.length a_keep_c)), (53, I (a.keep.length : Int)), (54, I (k : Int)), (55, B (decide ((k : Int) < (a.keep.length : Int))))] ?_ rfl ?_))
                    · as_aux_lemma => kernel_rfl
                    refine ENDOPS (NEXT (SEQ (IF (decide ((k : Int) < (a.keep.length : Int))) ?_ (fun bh29 => ?_) (fun bh29 => ?_))))
                    · as_aux_lemma => kernel_rfl
                    · -- decide ((k : Int) < (a.keep.length : Int)) = true
                      have h29 := bh29
                      have h29 := of_decide_eq_true h29
                      obtain ⟨y30, ys31, rfl, hx_y30, hd_y30, hl_y30⟩ := drop_cons hd hk (by omega)
                      refine SKIP (NEXT (SEQ (BLOCK (SEQ (REGION [0, 1, 2] rfl (OPC (INDEX 24 (.tmp 52) (.tmp 54) 56 0 ?_ (Nat.le_of_ble_eq_true rfl) a_keep_a a.keep.length a_keep_c .i64 (k : Int) 3 1 ?_ ?_ ?_ ?_ (Rd.some ha_keep (by omega)) (by omega) (by omega) ?_)))))))
                      · as_aux_lemma => kernel_rfl
                      · as_aux_lemma => kernel_rfl
                      · as_aux_lemma => kernel_rfl
                      · as_aux_lemma => kernel_rfl
                      · as_aux_lemma => kernel_rfl
                      refine OPC (LOADE 3 (.tmp 56) 57 3 ?_ (Nat.le_of_ble_eq_true rfl) a_keep_a (k * 1) 0 [vi y30] (vi y30) ?_ (fun w hw => (ha_keep.fr hw.fr).flat hx_y30) ?_ ?_)
                      · as_aux_lemma => kernel_rfl
                      · as_aux_lemma => kernel_rfl
                      · as_aux_lemma => kernel_rfl
                      refine RUN0 1 [] [(1, .p 0 0), (4, I y30), (52, .v (.slice a_keep_a a.keep.length a_keep_c)), (53, I (a.keep.length : Int)), (54, I (k : Int))] ?_ rfl ?_
                      · as_aux_lemma => kernel_rfl
                      refine ENDOPS (NEXT (SEQ (REGION [0, 1, 2] rfl (RUN0 1 [1, 2] [(1, .p 0 0), (52, .v (.slice a_keep_a a.keep.length a_keep_c)), (53, I (a.keep.length : Int)), (54, I (k : Int)), (58, I y30)] ?_ rfl ?_))))
                      · as_aux_lemma => kernel_rfl
                      refine OPC (CALL 33 #[vi y30, vi 0, vi 20000] (some 59) ?_ [] [] _ rfl (RV (.bool (inB y30 0 20000))) (fun w hw => within_c w y30 0 20000) (by rintro _ ⟨⟩; exact Nat.le_of_ble_eq_true rfl) ?_)
                      · as_aux_lemma => kernel_rfl
                      rintro ⟨⟩
                      refine RUN0 1 [] [(1, .p 0 0), (52, .v (.slice a_keep_a a.keep.length a_keep_c)), (53, I (a.keep.length : Int)), (54, I (k : Int)), (60, B (!(inB y30 0 20000)))] ?_ rfl ?_
                      · as_aux_lemma => kernel_rfl
                      refine ENDOPS (NEXT (IF (!(inB y30 0 20000)) ?_ (fun bh32 => ?_) (fun bh32 => ?_)))
                      · as_aux_lemma => kernel_rfl
                      · -- !(inB y30 0 20000) = true
                        have h32 := bh32
                        have h32 := notT h32
                        refine SEQ (REGION [0] rfl (RUN0 1 [] [(2, B false)] ?_ rfl ?_))
                        · as_aux_lemma => kernel_rfl
                        refine ENDOPS (NEXT (RET (OUTR (PASS trivial (PASS trivial (OUTR (PASS trivial (OUTR (PASS trivial (FIN (.bool false) ?_ () ?_ [] ?_))))))))))
                        · as_aux_lemma => kernel_rfl
                        · (try simp [usedB] at *); simp_all [RV, actOk, noReq, reqEq, allKeep, usedB, List.length_pos_iff]
                        · rfl
                      · -- !(inB y30 0 20000) = false
                        have h32 := bh32
                        have h32 := notF h32
                        refine SKIP (OUTN (NEXT (REGION [0, 1] rfl (RUN0 1 [1] [(1, .p 0 0), (52, .v (.slice a_keep_a a.keep.length a_keep_c)), (53, I (a.keep.length : Int)), (61, I (wr ((k : Int) + 1)))] ?_ rfl ?_))))
                        · as_aux_lemma => kernel_rfl
                        refine CAST (d := 61) (vi (wr ((k : Int) + 1))) (vi ((k + 1 : Nat) : Int)) ?_ (vi_cast (by omega) (by omega)) ?_
                        · as_aux_lemma => kernel_rfl
                        refine RUN0 1 [] [(1, .p 0 0), (52, .v (.slice a_keep_a a.keep.length a_keep_c)), (53, I (a.keep.length : Int)), (54, I ((k + 1 : Nat) : Int))] ?_ rfl ?_
                        · as_aux_lemma => kernel_rfl
                        refine ENDOPS (BACK (k + 1, ys31) [1, 52, 53, 54] 1 [] _ ⟨hl_y30, hd_y30, hv0.trans (by simp [allKeep, *])⟩ (by simp) ?_ rfl rfl rfl)
                        · as_aux_lemma => kernel_rfl
                    · -- decide ((k : Int) < (a.keep.length : Int)) = false
                      have h29 := bh29
                      have h29 := of_decide_eq_false h29
                      obtain rfl := drop_nil hk (by omega)
                      refine EXIT (PASS trivial (PASS trivial (OUT (NEXT (SEQ (REGION [0, 1, 2, 3, 4] rfl (RUN0 5 [] [(2, B (decide ((a.keep.length : Int) ≤ 3)))] ?_ rfl ?_)))))))
                      · as_aux_lemma => kernel_rfl
                      refine ENDOPS (NEXT (RET (OUTR (PASS trivial (FIN (.bool (decide ((a.keep.length : Int) ≤ 3))) ?_ () ?_ [] ?_)))))
                      · as_aux_lemma => kernel_rfl
                      · (try simp [usedB] at *); simp_all [RV, actOk, noReq, reqEq, allKeep, usedB, List.length_pos_iff]
                      · rfl
                  · -- a.kind == 4 = false
                    have h28 := bh28
                    have h28 := ne_of_beq_false h28
                    refine SKIP (OUTN (NEXT (SEQ (REGION [0] rfl (RUN0 1 [] [(2, B false)] ?_ rfl ?_)))))
                    · as_aux_lemma => kernel_rfl
                    refine ENDOPS (NEXT (RET (FIN (.bool false) ?_ () ?_ [] ?_)))
                    · as_aux_lemma => kernel_rfl
                    · (try simp [usedB] at *); simp_all [RV, actOk, noReq, reqEq, allKeep, usedB, List.length_pos_iff]
                    · rfl
        · -- a.kind != 4 = false
          have h23 := bh23
          have h23 := bneF h23
          refine RUN0 6 [] [(1, .p 0 0), (34, B false)] ?_ rfl ?_
          · as_aux_lemma => kernel_rfl
          refine ENDOPS (NEXT (IFF ?_ ?_))
          · as_aux_lemma => kernel_rfl
          refine SKIP (NEXT (SEQ (SEQ (REGION [0, 1] rfl (RUN0 2 [] [(1, .p 0 0), (36, I a.kind)] ?_ rfl ?_)))))
          · as_aux_lemma => kernel_rfl
          refine ENDOPS (NEXT (BLOCK (SEQ (REGION [0, 1] rfl (RUN0 2 [] [(1, .p 0 0), (36, I a.kind), (37, B (a.kind == 1))] ?_ rfl ?_)))))
          · as_aux_lemma => kernel_rfl
          refine ENDOPS (NEXT (IF (a.kind == 1) ?_ (fun bh33 => ?_) (fun bh33 => ?_)))
          · as_aux_lemma => kernel_rfl
          · -- a.kind == 1 = true
            have h33 := bh33
            have h33 := eq_of_beq h33
            refine SEQ (REGION [0, 1, 2, 3] rfl (RUN0 2 [2, 3] [(40, .v (.agg #[vi a.req.kind, vi a.req.id, vi a.req.cabin, vi a.req.from', vi a.req.size, vi a.req.tier]))] ?_ rfl ?_))
            · as_aux_lemma => kernel_rfl
            refine OPC (CALL 29 #[.agg #[vi a.req.kind, vi a.req.id, vi a.req.cabin, vi a.req.from', vi a.req.size, vi a.req.tier]] (some 41) ?_ [] [] _ rfl (RV (.bool (reqOk a.req))) (fun w hw => iReqOk_c w a.req) (by rintro _ ⟨⟩; exact Nat.le_of_ble_eq_true rfl) ?_)
            · as_aux_lemma => kernel_rfl
            rintro ⟨⟩
            refine RUN0 1 [] [(2, B (reqOk a.req))] ?_ rfl ?_
            · as_aux_lemma => kernel_rfl
            refine ENDOPS (NEXT (RET (OUTR (PASS trivial (FIN (.bool (reqOk a.req)) ?_ () ?_ [] ?_)))))
            · as_aux_lemma => kernel_rfl
            · (try simp [usedB] at *); simp_all [RV, actOk, noReq, reqEq, allKeep, usedB, List.length_pos_iff]
            · rfl
          · -- a.kind == 1 = false
            have h33 := bh33
            have h33 := ne_of_beq_false h33
            refine SEQ (REGION [0, 1] rfl (RUN0 2 [] [(1, .p 0 0), (36, I a.kind), (42, B (a.kind == 2))] ?_ rfl ?_))
            · as_aux_lemma => kernel_rfl
            refine ENDOPS (NEXT (IF (a.kind == 2) ?_ (fun bh34 => ?_) (fun bh34 => ?_)))
            · as_aux_lemma => kernel_rfl
            · -- a.kind == 2 = true
              have h34 := bh34
              have h34 := eq_of_beq h34
              refine SEQ (REGION [0] rfl (RUN0 1 [] [(2, B true)] ?_ rfl ?_))
              · as_aux_lemma => kernel_rfl
              refine ENDOPS (NEXT (RET (OUTR (PASS trivial (FIN (.bool true) ?_ () ?_ [] ?_)))))
              · as_aux_lemma => kernel_rfl
              · (try simp [usedB] at *); simp_all [RV, actOk, noReq, reqEq, allKeep, usedB, List.length_pos_iff]
              · rfl
            · -- a.kind == 2 = false
              have h34 := bh34
              have h34 := ne_of_beq_false h34
              refine SEQ (REGION [0, 1] rfl (RUN0 2 [] [(1, .p 0 0), (36, I a.kind), (44, B (a.kind == 3))] ?_ rfl ?_))
              · as_aux_lemma => kernel_rfl
              refine ENDOPS (NEXT (IF (a.kind == 3) ?_ (fun bh35 => ?_) (fun bh35 => ?_)))
              · as_aux_lemma => kernel_rfl
              · -- a.kind == 3 = true
                have h35 := bh35
                have h35 := eq_of_beq h35
                refine SEQ (REGION [0, 1, 2, 3] rfl (RUN0 2 [2, 3] [(47, I a.n)] ?_ rfl ?_))
                · as_aux_lemma => kernel_rfl
                refine OPC (CALL 33 #[vi a.n, vi 0, vi 9999] (some 48) ?_ [] [] _ rfl (RV (.bool (inB a.n 0 9999))) (fun w hw => within_c w a.n 0 9999) (by rintro _ ⟨⟩; exact Nat.le_of_ble_eq_true rfl) ?_)
                · as_aux_lemma => kernel_rfl
                rintro ⟨⟩
                refine RUN0 1 [] [(2, B (inB a.n 0 9999))] ?_ rfl ?_
                · as_aux_lemma => kernel_rfl
                refine ENDOPS (NEXT (RET (OUTR (PASS trivial (FIN (.bool (inB a.n 0 9999)) ?_ () ?_ [] ?_)))))
                · as_aux_lemma => kernel_rfl
                · (try simp [usedB] at *); simp_all [RV, actOk, noReq, reqEq, allKeep, usedB, List.length_pos_iff]
                · rfl
              · -- a.kind == 3 = false
                have h35 := bh35
                have h35 := ne_of_beq_false h35
                refine SEQ (REGION [0, 1] rfl (RUN0 2 [] [(1, .p 0 0), (49, B (a.kind == 4))] ?_ rfl ?_))
                · as_aux_lemma => kernel_rfl
                refine ENDOPS (NEXT (IF (a.kind == 4) ?_ (fun bh36 => ?_) (fun bh36 => ?_)))
                · as_aux_lemma => kernel_rfl
                · -- a.kind == 4 = true
                  have h36 := bh36
                  have h36 := eq_of_beq h36
                  refine SEQ (SEQ (REGION [0, 1, 2, 3] rfl (RUN0 4 [] [(1, .p 0 0), (52, .v (.slice a_keep_a a.keep.length a_keep_c)), (53, I (a.keep.length : Int)), (54, I 0)] ?_ rfl ?_)))
                  · as_aux_lemma => kernel_rfl
                  refine ENDOPS (NEXT (BLOCK (LOOP (ι := Nat × (List Int)) (fun j => [(1, .p 0 0), (52, .v (.slice a_keep_a a.keep.length a_keep_c)), (53, I (a.keep.length : Int)), (54, I (j.1 : Int))]) (fun j => [(26, [vi a.kind, vi a.req.kind, vi a.req.id, vi a.req.cabin, vi a.req.from', vi a.req.size, vi a.req.tier, vi a.n, .slice a_keep_a a.keep.length a_keep_c])]) (fun j => []) (fun j => j.1 + j.2.length = a.keep.length ∧ a.keep.drop j.1 = j.2 ∧ allKeep a.keep = allKeep j.2) (fun j => j.2.length) (0, a.keep) [1, 52, 53, 54] ⟨by simp, rfl, rfl⟩ ?_ rfl rfl ?_)))
                  · as_aux_lemma => kernel_rfl
                  rintro ⟨k, ys⟩ ⟨hk, hd, hv0⟩
                  dsimp only at hk hd hv0
                  refine SEQ (REGION [0] rfl (RUN0 1 [] [(1, .p 0 0), (52, .v (.slice a_keep_a a.keep.length a_keep_c)), (53, I (a.keep.length : Int)), (54, I (k : Int)), (55, B (decide ((k : Int) < (a.keep.length : Int))))] ?_ rfl ?_))
                  · as_aux_lemma => kernel_rfl
                  refine ENDOPS (NEXT (SEQ (IF (decide ((k : Int) < (a.keep.length : Int))) ?_ (fun bh37 => ?_) (fun bh37 => ?_))))
                  · as_aux_lemma => kernel_rfl
                  · -- decide ((k : Int) < (a.keep.length : Int)) = true
                    have h37 := bh37
                    have h37 := of_decide_eq_true h37
                    obtain ⟨y38, ys39, rfl, hx_y38, hd_y38, hl_y38⟩ := drop_cons hd hk (by omega)
                    refine SKIP (NEXT (SEQ (BLOCK (SEQ (REGION [0, 1, 2] rfl (OPC (INDEX 24 (.tmp 52) (.tmp 54) 56 0 ?_ (Nat.le_of_ble_eq_true rfl) a_keep_a a.keep.length a_keep_c .i64 (k : Int) 3 1 ?_ ?_ ?_ ?_ (Rd.some ha_keep (by omega)) (by omega) (by omega) ?_)))))))
                    · as_aux_lemma => kernel_rfl
                    · as_aux_lemma => kernel_rfl
                    · as_aux_lemma => kernel_rfl
                    · as_aux_lemma => kernel_rfl
                    · as_aux_lemma => kernel_rfl
                    refine OPC (LOADE 3 (.tmp 56) 57 3 ?_ (Nat.le_of_ble_eq_true rfl) a_keep_a (k * 1) 0 [vi y38] (vi y38) ?_ (fun w hw => (ha_keep.fr hw.fr).flat hx_y38) ?_ ?_)
                    · as_aux_lemma => kernel_rfl
                    · as_aux_lemma => kernel_rfl
                    · as_aux_lemma => kernel_rfl
                    refine RUN0 1 [] [(1, .p 0 0), (4, I y38), (52, .v (.slice a_keep_a a.keep.length a_keep_c)), (53, I (a.keep.length : Int)), (54, I (k : Int))] ?_ rfl ?_
                    · as_aux_lemma => kernel_rfl
                    refine ENDOPS (NEXT (SEQ (REGION [0, 1, 2] rfl (RUN0 1 [1, 2] [(1, .p 0 0), (52, .v (.slice a_keep_a a.keep.length a_keep_c)), (53, I (a.keep.length : Int)), (54, I (k : Int)), (58, I y38)] ?_ rfl ?_))))
                    · as_aux_lemma => kernel_rfl
                    refine OPC (CALL 33 #[vi y38, vi 0, vi 20000] (some 59) ?_ [] [] _ rfl (RV (.bool (inB y38 0 20000))) (fun w hw => within_c w y38 0 20000) (by rintro _ ⟨⟩; exact Nat.le_of_ble_eq_true rfl) ?_)
                    · as_aux_lemma => kernel_rfl
                    rintro ⟨⟩
                    refine RUN0 1 [] [(1, .p 0 0), (52, .v (.slice a_keep_a a.keep.length a_keep_c)), (53, I (a.keep.length : Int)), (54, I (k : Int)), (60, B (!(inB y38 0 20000)))] ?_ rfl ?_
                    · as_aux_lemma => kernel_rfl
                    refine ENDOPS (NEXT (IF (!(inB y38 0 20000)) ?_ (fun bh40 => ?_) (fun bh40 => ?_)))
                    · as_aux_lemma => kernel_rfl
                    · -- !(inB y38 0 20000) = true
                      have h40 := bh40
                      have h40 := notT h40
                      refine SEQ (REGION [0] rfl (RUN0 1 [] [(2, B false)] ?_ rfl ?_))
                      · as_aux_lemma => kernel_rfl
                      refine ENDOPS (NEXT (RET (OUTR (PASS trivial (PASS trivial (OUTR (PASS trivial (OUTR (PASS trivial (FIN (.bool false) ?_ () ?_ [] ?_))))))))))
                      · as_aux_lemma => kernel_rfl
                      · (try simp [usedB] at *); simp_all [RV, actOk, noReq, reqEq, allKeep, usedB, List.length_pos_iff]
                      · rfl
                    · -- !(inB y38 0 20000) = false
                      have h40 := bh40
                      have h40 := notF h40
                      refine SKIP (OUTN (NEXT (REGION [0, 1] rfl (RUN0 1 [1] [(1, .p 0 0), (52, .v (.slice a_keep_a a.keep.length a_keep_c)), (53, I (a.keep.length : Int)), (61, I (wr ((k : Int) + 1)))] ?_ rfl ?_))))
                      · as_aux_lemma => kernel_rfl
                      refine CAST (d := 61) (vi (wr ((k : Int) + 1))) (vi ((k + 1 : Nat) : Int)) ?_ (vi_cast (by omega) (by omega)) ?_
                      · as_aux_lemma => kernel_rfl
                      refine RUN0 1 [] [(1, .p 0 0), (52, .v (.slice a_keep_a a.keep.length a_keep_c)), (53, I (a.keep.length : Int)), (54, I ((k + 1 : Nat) : Int))] ?_ rfl ?_
                      · as_aux_lemma => kernel_rfl
                      refine ENDOPS (BACK (k + 1, ys39) [1, 52, 53, 54] 1 [] _ ⟨hl_y38, hd_y38, hv0.trans (by simp [allKeep, *])⟩ (by simp) ?_ rfl rfl rfl)
                      · as_aux_lemma => kernel_rfl
                  · -- decide ((k : Int) < (a.keep.length : Int)) = false
                    have h37 := bh37
                    have h37 := of_decide_eq_false h37
                    obtain rfl := drop_nil hk (by omega)
                    refine EXIT (PASS trivial (PASS trivial (OUT (NEXT (SEQ (REGION [0, 1, 2, 3, 4] rfl (RUN0 5 [] [(2, B (decide ((a.keep.length : Int) ≤ 3)))] ?_ rfl ?_)))))))
                    · as_aux_lemma => kernel_rfl
                    refine ENDOPS (NEXT (RET (OUTR (PASS trivial (FIN (.bool (decide ((a.keep.length : Int) ≤ 3))) ?_ () ?_ [] ?_)))))
                    · as_aux_lemma => kernel_rfl
                    · (try simp [usedB] at *); simp_all [RV, actOk, noReq, reqEq, allKeep, usedB, List.length_pos_iff]
                    · rfl
                · -- a.kind == 4 = false
                  have h36 := bh36
                  have h36 := ne_of_beq_false h36
                  refine SKIP (OUTN (NEXT (SEQ (REGION [0] rfl (RUN0 1 [] [(2, B false)] ?_ rfl ?_)))))
                  · as_aux_lemma => kernel_rfl
                  refine ENDOPS (NEXT (RET (FIN (.bool false) ?_ () ?_ [] ?_)))
                  · as_aux_lemma => kernel_rfl
                  · (try simp [usedB] at *); simp_all [RV, actOk, noReq, reqEq, allKeep, usedB, List.length_pos_iff]
                  · rfl
  · -- a.kind != 1 = false
    have h1 := bh1
    have h1 := bneF h1
    refine RUN0 10 [14, 15, 16, 17, 18, 19, 20, 21, 22, 23, 24, 25, 26, 27, 28, 29] [(1, .p 0 0), (14, B false), (18, B (a.kind != 3))] ?_ rfl ?_
    · as_aux_lemma => kernel_rfl
    refine SPLIT (d := 18) (a.kind != 3) ?_ (fun bh41 => ?_) (fun bh41 => ?_)
    · as_aux_lemma => kernel_rfl
    · -- a.kind != 3 = true
      have h41 := bh41
      have h41 := bne_iff_ne.1 h41
      refine RUN0 6 [20, 21, 22, 23, 24, 25, 26, 27, 28, 29] [(1, .p 0 0), (24, B (a.n != 0))] ?_ rfl ?_
      · as_aux_lemma => kernel_rfl
      refine SPLIT (d := 24) (a.n != 0) ?_ (fun bh42 => ?_) (fun bh42 => ?_)
      · as_aux_lemma => kernel_rfl
      · -- a.n != 0 = true
        have h42 := bh42
        have h42 := bne_iff_ne.1 h42
        refine RUN0 10 [] [(1, .p 0 0), (34, B true)] ?_ rfl ?_
        · as_aux_lemma => kernel_rfl
        refine ENDOPS (NEXT (IFT ?_ ?_))
        · as_aux_lemma => kernel_rfl
        refine SEQ (REGION [0] rfl (RUN0 1 [] [(2, B false)] ?_ rfl ?_))
        · as_aux_lemma => kernel_rfl
        refine ENDOPS (NEXT (RET (PASS trivial (FIN (.bool false) ?_ () ?_ [] ?_))))
        · as_aux_lemma => kernel_rfl
        · (try simp [usedB] at *); simp_all [RV, actOk, noReq, reqEq, allKeep, usedB, List.length_pos_iff]
        · rfl
      · -- a.n != 0 = false
        have h42 := bh42
        have h42 := bneF h42
        refine RUN0 4 [24, 25, 26, 27, 28, 29] [(1, .p 0 0), (24, B false), (28, B (a.kind != 4))] ?_ rfl ?_
        · as_aux_lemma => kernel_rfl
        refine SPLIT (d := 28) (a.kind != 4) ?_ (fun bh43 => ?_) (fun bh43 => ?_)
        · as_aux_lemma => kernel_rfl
        · -- a.kind != 4 = true
          have h43 := bh43
          have h43 := bne_iff_ne.1 h43
          refine RUN0 6 [] [(1, .p 0 0), (34, B (decide ((a.keep.length : Int) > 0)))] ?_ rfl ?_
          · as_aux_lemma => kernel_rfl
          refine ENDOPS (NEXT (IF (decide ((a.keep.length : Int) > 0)) ?_ (fun bh44 => ?_) (fun bh44 => ?_)))
          · as_aux_lemma => kernel_rfl
          · -- decide ((a.keep.length : Int) > 0) = true
            have h44 := bh44
            have h44 := of_decide_eq_true h44
            refine SEQ (REGION [0] rfl (RUN0 1 [] [(2, B false)] ?_ rfl ?_))
            · as_aux_lemma => kernel_rfl
            refine ENDOPS (NEXT (RET (PASS trivial (FIN (.bool false) ?_ () ?_ [] ?_))))
            · as_aux_lemma => kernel_rfl
            · (try simp [usedB] at *); simp_all [RV, actOk, noReq, reqEq, allKeep, usedB, List.length_pos_iff]
            · rfl
          · -- decide ((a.keep.length : Int) > 0) = false
            have h44 := bh44
            have h44 := of_decide_eq_false h44
            refine SKIP (NEXT (SEQ (SEQ (REGION [0, 1] rfl (RUN0 2 [] [(1, .p 0 0), (36, I a.kind)] ?_ rfl ?_)))))
            · as_aux_lemma => kernel_rfl
            refine ENDOPS (NEXT (BLOCK (SEQ (REGION [0, 1] rfl (RUN0 2 [] [(1, .p 0 0), (36, I a.kind), (37, B (a.kind == 1))] ?_ rfl ?_)))))
            · as_aux_lemma => kernel_rfl
            refine ENDOPS (NEXT (IF (a.kind == 1) ?_ (fun bh45 => ?_) (fun bh45 => ?_)))
            · as_aux_lemma => kernel_rfl
            · -- a.kind == 1 = true
              have h45 := bh45
              have h45 := eq_of_beq h45
              refine SEQ (REGION [0, 1, 2, 3] rfl (RUN0 2 [2, 3] [(40, .v (.agg #[vi a.req.kind, vi a.req.id, vi a.req.cabin, vi a.req.from', vi a.req.size, vi a.req.tier]))] ?_ rfl ?_))
              · as_aux_lemma => kernel_rfl
              refine OPC (CALL 29 #[.agg #[vi a.req.kind, vi a.req.id, vi a.req.cabin, vi a.req.from', vi a.req.size, vi a.req.tier]] (some 41) ?_ [] [] _ rfl (RV (.bool (reqOk a.req))) (fun w hw => iReqOk_c w a.req) (by rintro _ ⟨⟩; exact Nat.le_of_ble_eq_true rfl) ?_)
              · as_aux_lemma => kernel_rfl
              rintro ⟨⟩
              refine RUN0 1 [] [(2, B (reqOk a.req))] ?_ rfl ?_
              · as_aux_lemma => kernel_rfl
              refine ENDOPS (NEXT (RET (OUTR (PASS trivial (FIN (.bool (reqOk a.req)) ?_ () ?_ [] ?_)))))
              · as_aux_lemma => kernel_rfl
              · (try simp [usedB] at *); simp_all [RV, actOk, noReq, reqEq, allKeep, usedB, List.length_pos_iff]
              · rfl
            · -- a.kind == 1 = false
              have h45 := bh45
              have h45 := ne_of_beq_false h45
              refine SEQ (REGION [0, 1] rfl (RUN0 2 [] [(1, .p 0 0), (36, I a.kind), (42, B (a.kind == 2))] ?_ rfl ?_))
              · as_aux_lemma => kernel_rfl
              refine ENDOPS (NEXT (IF (a.kind == 2) ?_ (fun bh46 => ?_) (fun bh46 => ?_)))
              · as_aux_lemma => kernel_rfl
              · -- a.kind == 2 = true
                have h46 := bh46
                have h46 := eq_of_beq h46
                refine SEQ (REGION [0] rfl (RUN0 1 [] [(2, B true)] ?_ rfl ?_))
                · as_aux_lemma => kernel_rfl
                refine ENDOPS (NEXT (RET (OUTR (PASS trivial (FIN (.bool true) ?_ () ?_ [] ?_)))))
                · as_aux_lemma => kernel_rfl
                · (try simp [usedB] at *); simp_all [RV, actOk, noReq, reqEq, allKeep, usedB, List.length_pos_iff]
                · rfl
              · -- a.kind == 2 = false
                have h46 := bh46
                have h46 := ne_of_beq_false h46
                refine SEQ (REGION [0, 1] rfl (RUN0 2 [] [(1, .p 0 0), (36, I a.kind), (44, B (a.kind == 3))] ?_ rfl ?_))
                · as_aux_lemma => kernel_rfl
                refine ENDOPS (NEXT (IF (a.kind == 3) ?_ (fun bh47 => ?_) (fun bh47 => ?_)))
                · as_aux_lemma => kernel_rfl
                · -- a.kind == 3 = true
                  have h47 := bh47
                  have h47 := eq_of_beq h47
                  refine SEQ (REGION [0, 1, 2, 3] rfl (RUN0 2 [2, 3] [(47, I a.n)] ?_ rfl ?_))
                  · as_aux_lemma => kernel_rfl
                  refine OPC (CALL 33 #[vi a.n, vi 0, vi 9999] (some 48) ?_ [] [] _ rfl (RV (.bool (inB a.n 0 9999))) (fun w hw => within_c w a.n 0 9999) (by rintro _ ⟨⟩; exact Nat.le_of_ble_eq_true rfl) ?_)
                  · as_aux_lemma => kernel_rfl
                  rintro ⟨⟩
                  refine RUN0 1 [] [(2, B (inB a.n 0 9999))] ?_ rfl ?_
                  · as_aux_lemma => kernel_rfl
                  refine ENDOPS (NEXT (RET (OUTR (PASS trivial (FIN (.bool (inB a.n 0 9999)) ?_ () ?_ [] ?_)))))
                  · as_aux_lemma => kernel_rfl
                  · (try simp [usedB] at *); simp_all [RV, actOk, noReq, reqEq, allKeep, usedB, List.length_pos_iff]
                  · rfl
                · -- a.kind == 3 = false
                  have h47 := bh47
                  have h47 := ne_of_beq_false h47
                  refine SEQ (REGION [0, 1] rfl (RUN0 2 [] [(1, .p 0 0), (49, B (a.kind == 4))] ?_ rfl ?_))
                  · as_aux_lemma => kernel_rfl
                  refine ENDOPS (NEXT (IF (a.kind == 4) ?_ (fun bh48 => ?_) (fun bh48 => ?_)))
                  · as_aux_lemma => kernel_rfl
                  · -- a.kind == 4 = true
                    have h48 := bh48
                    have h48 := eq_of_beq h48
                    refine SEQ (SEQ (REGION [0, 1, 2, 3] rfl (RUN0 4 [] [(1, .p 0 0), (52, .v (.slice a_keep_a a.keep.length a_keep_c)), (53, I (a.keep.length : Int)), (54, I 0)] ?_ rfl ?_)))
                    · as_aux_lemma => kernel_rfl
                    refine ENDOPS (NEXT (BLOCK (LOOP (ι := Nat × (List Int)) (fun j => [(1, .p 0 0), (52, .v (.slice a_keep_a a.keep.length a_keep_c)), (53, I (a.keep.length : Int)), (54, I (j.1 : Int))]) (fun j => [(26, [vi a.kind, vi a.req.kind, vi a.req.id, vi a.req.cabin, vi a.req.from', vi a.req.size, vi a.req.tier, vi a.n, .slice a_keep_a a.keep.length a_keep_c])]) (fun j => []) (fun j => j.1 + j.2.length = a.keep.length ∧ a.keep.drop j.1 = j.2 ∧ allKeep a.keep = allKeep j.2) (fun j => j.2.length) (0, a.keep) [1, 52, 53, 54] ⟨by simp, rfl, rfl⟩ ?_ rfl rfl ?_)))
                    · as_aux_lemma => kernel_rfl
                    rintro ⟨k, ys⟩ ⟨hk, hd, hv0⟩
                    dsimp only at hk hd hv0
                    refine SEQ (REGION [0] rfl (RUN0 1 [] [(1, .p 0 0), (52, .v (.slice a_keep_a a.keep.length a_keep_c)), (53, I (a.keep.length : Int)), (54, I (k : Int)), (55, B (decide ((k : Int) < (a.keep.length : Int))))] ?_ rfl ?_))
                    · as_aux_lemma => kernel_rfl
                    refine ENDOPS (NEXT (SEQ (IF (decide ((k : Int) < (a.keep.length : Int))) ?_ (fun bh49 => ?_) (fun bh49 => ?_))))
                    · as_aux_lemma => kernel_rfl
                    · -- decide ((k : Int) < (a.keep.length : Int)) = true
                      have h49 := bh49
                      have h49 := of_decide_eq_true h49
                      obtain ⟨y50, ys51, rfl, hx_y50, hd_y50, hl_y50⟩ := drop_cons hd hk (by omega)
                      refine SKIP (NEXT (SEQ (BLOCK (SEQ (REGION [0, 1, 2] rfl (OPC (INDEX 24 (.tmp 52) (.tmp 54) 56 0 ?_ (Nat.le_of_ble_eq_true rfl) a_keep_a a.keep.length a_keep_c .i64 (k : Int) 3 1 ?_ ?_ ?_ ?_ (Rd.some ha_keep (by omega)) (by omega) (by omega) ?_)))))))
                      · as_aux_lemma => kernel_rfl
                      · as_aux_lemma => kernel_rfl
                      · as_aux_lemma => kernel_rfl
                      · as_aux_lemma => kernel_rfl
                      · as_aux_lemma => kernel_rfl
                      refine OPC (LOADE 3 (.tmp 56) 57 3 ?_ (Nat.le_of_ble_eq_true rfl) a_keep_a (k * 1) 0 [vi y50] (vi y50) ?_ (fun w hw => (ha_keep.fr hw.fr).flat hx_y50) ?_ ?_)
                      · as_aux_lemma => kernel_rfl
                      · as_aux_lemma => kernel_rfl
                      · as_aux_lemma => kernel_rfl
                      refine RUN0 1 [] [(1, .p 0 0), (4, I y50), (52, .v (.slice a_keep_a a.keep.length a_keep_c)), (53, I (a.keep.length : Int)), (54, I (k : Int))] ?_ rfl ?_
                      · as_aux_lemma => kernel_rfl
                      refine ENDOPS (NEXT (SEQ (REGION [0, 1, 2] rfl (RUN0 1 [1, 2] [(1, .p 0 0), (52, .v (.slice a_keep_a a.keep.length a_keep_c)), (53, I (a.keep.length : Int)), (54, I (k : Int)), (58, I y50)] ?_ rfl ?_))))
                      · as_aux_lemma => kernel_rfl
                      refine OPC (CALL 33 #[vi y50, vi 0, vi 20000] (some 59) ?_ [] [] _ rfl (RV (.bool (inB y50 0 20000))) (fun w hw => within_c w y50 0 20000) (by rintro _ ⟨⟩; exact Nat.le_of_ble_eq_true rfl) ?_)
                      · as_aux_lemma => kernel_rfl
                      rintro ⟨⟩
                      refine RUN0 1 [] [(1, .p 0 0), (52, .v (.slice a_keep_a a.keep.length a_keep_c)), (53, I (a.keep.length : Int)), (54, I (k : Int)), (60, B (!(inB y50 0 20000)))] ?_ rfl ?_
                      · as_aux_lemma => kernel_rfl
                      refine ENDOPS (NEXT (IF (!(inB y50 0 20000)) ?_ (fun bh52 => ?_) (fun bh52 => ?_)))
                      · as_aux_lemma => kernel_rfl
                      · -- !(inB y50 0 20000) = true
                        have h52 := bh52
                        have h52 := notT h52
                        refine SEQ (REGION [0] rfl (RUN0 1 [] [(2, B false)] ?_ rfl ?_))
                        · as_aux_lemma => kernel_rfl
                        refine ENDOPS (NEXT (RET (OUTR (PASS trivial (PASS trivial (OUTR (PASS trivial (OUTR (PASS trivial (FIN (.bool false) ?_ () ?_ [] ?_))))))))))
                        · as_aux_lemma => kernel_rfl
                        · (try simp [usedB] at *); simp_all [RV, actOk, noReq, reqEq, allKeep, usedB, List.length_pos_iff]
                        · rfl
                      · -- !(inB y50 0 20000) = false
                        have h52 := bh52
                        have h52 := notF h52
                        refine SKIP (OUTN (NEXT (REGION [0, 1] rfl (RUN0 1 [1] [(1, .p 0 0), (52, .v (.slice a_keep_a a.keep.length a_keep_c)), (53, I (a.keep.length : Int)), (61, I (wr ((k : Int) + 1)))] ?_ rfl ?_))))
                        · as_aux_lemma => kernel_rfl
                        refine CAST (d := 61) (vi (wr ((k : Int) + 1))) (vi ((k + 1 : Nat) : Int)) ?_ (vi_cast (by omega) (by omega)) ?_
                        · as_aux_lemma => kernel_rfl
                        refine RUN0 1 [] [(1, .p 0 0), (52, .v (.slice a_keep_a a.keep.length a_keep_c)), (53, I (a.keep.length : Int)), (54, I ((k + 1 : Nat) : Int))] ?_ rfl ?_
                        · as_aux_lemma => kernel_rfl
                        refine ENDOPS (BACK (k + 1, ys51) [1, 52, 53, 54] 1 [] _ ⟨hl_y50, hd_y50, hv0.trans (by simp [allKeep, *])⟩ (by simp) ?_ rfl rfl rfl)
                        · as_aux_lemma => kernel_rfl
                    · -- decide ((k : Int) < (a.keep.length : Int)) = false
                      have h49 := bh49
                      have h49 := of_decide_eq_false h49
                      obtain rfl := drop_nil hk (by omega)
                      refine EXIT (PASS trivial (PASS trivial (OUT (NEXT (SEQ (REGION [0, 1, 2, 3, 4] rfl (RUN0 5 [] [(2, B (decide ((a.keep.length : Int) ≤ 3)))] ?_ rfl ?_)))))))
                      · as_aux_lemma => kernel_rfl
                      refine ENDOPS (NEXT (RET (OUTR (PASS trivial (FIN (.bool (decide ((a.keep.length : Int) ≤ 3))) ?_ () ?_ [] ?_)))))
                      · as_aux_lemma => kernel_rfl
                      · (try simp [usedB] at *); simp_all [RV, actOk, noReq, reqEq, allKeep, usedB, List.length_pos_iff]
                      · rfl
                  · -- a.kind == 4 = false
                    have h48 := bh48
                    have h48 := ne_of_beq_false h48
                    refine SKIP (OUTN (NEXT (SEQ (REGION [0] rfl (RUN0 1 [] [(2, B false)] ?_ rfl ?_)))))
                    · as_aux_lemma => kernel_rfl
                    refine ENDOPS (NEXT (RET (FIN (.bool false) ?_ () ?_ [] ?_)))
                    · as_aux_lemma => kernel_rfl
                    · (try simp [usedB] at *); simp_all [RV, actOk, noReq, reqEq, allKeep, usedB, List.length_pos_iff]
                    · rfl
        · -- a.kind != 4 = false
          have h43 := bh43
          have h43 := bneF h43
          refine RUN0 6 [] [(1, .p 0 0), (34, B false)] ?_ rfl ?_
          · as_aux_lemma => kernel_rfl
          refine ENDOPS (NEXT (IFF ?_ ?_))
          · as_aux_lemma => kernel_rfl
          refine SKIP (NEXT (SEQ (SEQ (REGION [0, 1] rfl (RUN0 2 [] [(1, .p 0 0), (36, I a.kind)] ?_ rfl ?_)))))
          · as_aux_lemma => kernel_rfl
          refine ENDOPS (NEXT (BLOCK (SEQ (REGION [0, 1] rfl (RUN0 2 [] [(1, .p 0 0), (36, I a.kind), (37, B (a.kind == 1))] ?_ rfl ?_)))))
          · as_aux_lemma => kernel_rfl
          refine ENDOPS (NEXT (IF (a.kind == 1) ?_ (fun bh53 => ?_) (fun bh53 => ?_)))
          · as_aux_lemma => kernel_rfl
          · -- a.kind == 1 = true
            have h53 := bh53
            have h53 := eq_of_beq h53
            refine SEQ (REGION [0, 1, 2, 3] rfl (RUN0 2 [2, 3] [(40, .v (.agg #[vi a.req.kind, vi a.req.id, vi a.req.cabin, vi a.req.from', vi a.req.size, vi a.req.tier]))] ?_ rfl ?_))
            · as_aux_lemma => kernel_rfl
            refine OPC (CALL 29 #[.agg #[vi a.req.kind, vi a.req.id, vi a.req.cabin, vi a.req.from', vi a.req.size, vi a.req.tier]] (some 41) ?_ [] [] _ rfl (RV (.bool (reqOk a.req))) (fun w hw => iReqOk_c w a.req) (by rintro _ ⟨⟩; exact Nat.le_of_ble_eq_true rfl) ?_)
            · as_aux_lemma => kernel_rfl
            rintro ⟨⟩
            refine RUN0 1 [] [(2, B (reqOk a.req))] ?_ rfl ?_
            · as_aux_lemma => kernel_rfl
            refine ENDOPS (NEXT (RET (OUTR (PASS trivial (FIN (.bool (reqOk a.req)) ?_ () ?_ [] ?_)))))
            · as_aux_lemma => kernel_rfl
            · (try simp [usedB] at *); simp_all [RV, actOk, noReq, reqEq, allKeep, usedB, List.length_pos_iff]
            · rfl
          · -- a.kind == 1 = false
            have h53 := bh53
            have h53 := ne_of_beq_false h53
            refine SEQ (REGION [0, 1] rfl (RUN0 2 [] [(1, .p 0 0), (36, I a.kind), (42, B (a.kind == 2))] ?_ rfl ?_))
            · as_aux_lemma => kernel_rfl
            refine ENDOPS (NEXT (IF (a.kind == 2) ?_ (fun bh54 => ?_) (fun bh54 => ?_)))
            · as_aux_lemma => kernel_rfl
            · -- a.kind == 2 = true
              have h54 := bh54
              have h54 := eq_of_beq h54
              refine SEQ (REGION [0] rfl (RUN0 1 [] [(2, B true)] ?_ rfl ?_))
              · as_aux_lemma => kernel_rfl
              refine ENDOPS (NEXT (RET (OUTR (PASS trivial (FIN (.bool true) ?_ () ?_ [] ?_)))))
              · as_aux_lemma => kernel_rfl
              · (try simp [usedB] at *); simp_all [RV, actOk, noReq, reqEq, allKeep, usedB, List.length_pos_iff]
              · rfl
            · -- a.kind == 2 = false
              have h54 := bh54
              have h54 := ne_of_beq_false h54
              refine SEQ (REGION [0, 1] rfl (RUN0 2 [] [(1, .p 0 0), (36, I a.kind), (44, B (a.kind == 3))] ?_ rfl ?_))
              · as_aux_lemma => kernel_rfl
              refine ENDOPS (NEXT (IF (a.kind == 3) ?_ (fun bh55 => ?_) (fun bh55 => ?_)))
              · as_aux_lemma => kernel_rfl
              · -- a.kind == 3 = true
                have h55 := bh55
                have h55 := eq_of_beq h55
                refine SEQ (REGION [0, 1, 2, 3] rfl (RUN0 2 [2, 3] [(47, I a.n)] ?_ rfl ?_))
                · as_aux_lemma => kernel_rfl
                refine OPC (CALL 33 #[vi a.n, vi 0, vi 9999] (some 48) ?_ [] [] _ rfl (RV (.bool (inB a.n 0 9999))) (fun w hw => within_c w a.n 0 9999) (by rintro _ ⟨⟩; exact Nat.le_of_ble_eq_true rfl) ?_)
                · as_aux_lemma => kernel_rfl
                rintro ⟨⟩
                refine RUN0 1 [] [(2, B (inB a.n 0 9999))] ?_ rfl ?_
                · as_aux_lemma => kernel_rfl
                refine ENDOPS (NEXT (RET (OUTR (PASS trivial (FIN (.bool (inB a.n 0 9999)) ?_ () ?_ [] ?_)))))
                · as_aux_lemma => kernel_rfl
                · (try simp [usedB] at *); simp_all [RV, actOk, noReq, reqEq, allKeep, usedB, List.length_pos_iff]
                · rfl
              · -- a.kind == 3 = false
                have h55 := bh55
                have h55 := ne_of_beq_false h55
                refine SEQ (REGION [0, 1] rfl (RUN0 2 [] [(1, .p 0 0), (49, B (a.kind == 4))] ?_ rfl ?_))
                · as_aux_lemma => kernel_rfl
                refine ENDOPS (NEXT (IF (a.kind == 4) ?_ (fun bh56 => ?_) (fun bh56 => ?_)))
                · as_aux_lemma => kernel_rfl
                · -- a.kind == 4 = true
                  have h56 := bh56
                  have h56 := eq_of_beq h56
                  refine SEQ (SEQ (REGION [0, 1, 2, 3] rfl (RUN0 4 [] [(1, .p 0 0), (52, .v (.slice a_keep_a a.keep.length a_keep_c)), (53, I (a.keep.length : Int)), (54, I 0)] ?_ rfl ?_)))
                  · as_aux_lemma => kernel_rfl
                  refine ENDOPS (NEXT (BLOCK (LOOP (ι := Nat × (List Int)) (fun j => [(1, .p 0 0), (52, .v (.slice a_keep_a a.keep.length a_keep_c)), (53, I (a.keep.length : Int)), (54, I (j.1 : Int))]) (fun j => [(26, [vi a.kind, vi a.req.kind, vi a.req.id, vi a.req.cabin, vi a.req.from', vi a.req.size, vi a.req.tier, vi a.n, .slice a_keep_a a.keep.length a_keep_c])]) (fun j => []) (fun j => j.1 + j.2.length = a.keep.length ∧ a.keep.drop j.1 = j.2 ∧ allKeep a.keep = allKeep j.2) (fun j => j.2.length) (0, a.keep) [1, 52, 53, 54] ⟨by simp, rfl, rfl⟩ ?_ rfl rfl ?_)))
                  · as_aux_lemma => kernel_rfl
                  rintro ⟨k, ys⟩ ⟨hk, hd, hv0⟩
                  dsimp only at hk hd hv0
                  refine SEQ (REGION [0] rfl (RUN0 1 [] [(1, .p 0 0), (52, .v (.slice a_keep_a a.keep.length a_keep_c)), (53, I (a.keep.length : Int)), (54, I (k : Int)), (55, B (decide ((k : Int) < (a.keep.length : Int))))] ?_ rfl ?_))
                  · as_aux_lemma => kernel_rfl
                  refine ENDOPS (NEXT (SEQ (IF (decide ((k : Int) < (a.keep.length : Int))) ?_ (fun bh57 => ?_) (fun bh57 => ?_))))
                  · as_aux_lemma => kernel_rfl
                  · -- decide ((k : Int) < (a.keep.length : Int)) = true
                    have h57 := bh57
                    have h57 := of_decide_eq_true h57
                    obtain ⟨y58, ys59, rfl, hx_y58, hd_y58, hl_y58⟩ := drop_cons hd hk (by omega)
                    refine SKIP (NEXT (SEQ (BLOCK (SEQ (REGION [0, 1, 2] rfl (OPC (INDEX 24 (.tmp 52) (.tmp 54) 56 0 ?_ (Nat.le_of_ble_eq_true rfl) a_keep_a a.keep.length a_keep_c .i64 (k : Int) 3 1 ?_ ?_ ?_ ?_ (Rd.some ha_keep (by omega)) (by omega) (by omega) ?_)))))))
                    · as_aux_lemma => kernel_rfl
                    · as_aux_lemma => kernel_rfl
                    · as_aux_lemma => kernel_rfl
                    · as_aux_lemma => kernel_rfl
                    · as_aux_lemma => kernel_rfl
                    refine OPC (LOADE 3 (.tmp 56) 57 3 ?_ (Nat.le_of_ble_eq_true rfl) a_keep_a (k * 1) 0 [vi y58] (vi y58) ?_ (fun w hw => (ha_keep.fr hw.fr).flat hx_y58) ?_ ?_)
                    · as_aux_lemma => kernel_rfl
                    · as_aux_lemma => kernel_rfl
                    · as_aux_lemma => kernel_rfl
                    refine RUN0 1 [] [(1, .p 0 0), (4, I y58), (52, .v (.slice a_keep_a a.keep.length a_keep_c)), (53, I (a.keep.length : Int)), (54, I (k : Int))] ?_ rfl ?_
                    · as_aux_lemma => kernel_rfl
                    refine ENDOPS (NEXT (SEQ (REGION [0, 1, 2] rfl (RUN0 1 [1, 2] [(1, .p 0 0), (52, .v (.slice a_keep_a a.keep.length a_keep_c)), (53, I (a.keep.length : Int)), (54, I (k : Int)), (58, I y58)] ?_ rfl ?_))))
                    · as_aux_lemma => kernel_rfl
                    refine OPC (CALL 33 #[vi y58, vi 0, vi 20000] (some 59) ?_ [] [] _ rfl (RV (.bool (inB y58 0 20000))) (fun w hw => within_c w y58 0 20000) (by rintro _ ⟨⟩; exact Nat.le_of_ble_eq_true rfl) ?_)
                    · as_aux_lemma => kernel_rfl
                    rintro ⟨⟩
                    refine RUN0 1 [] [(1, .p 0 0), (52, .v (.slice a_keep_a a.keep.length a_keep_c)), (53, I (a.keep.length : Int)), (54, I (k : Int)), (60, B (!(inB y58 0 20000)))] ?_ rfl ?_
                    · as_aux_lemma => kernel_rfl
                    refine ENDOPS (NEXT (IF (!(inB y58 0 20000)) ?_ (fun bh60 => ?_) (fun bh60 => ?_)))
                    · as_aux_lemma => kernel_rfl
                    · -- !(inB y58 0 20000) = true
                      have h60 := bh60
                      have h60 := notT h60
                      refine SEQ (REGION [0] rfl (RUN0 1 [] [(2, B false)] ?_ rfl ?_))
                      · as_aux_lemma => kernel_rfl
                      refine ENDOPS (NEXT (RET (OUTR (PASS trivial (PASS trivial (OUTR (PASS trivial (OUTR (PASS trivial (FIN (.bool false) ?_ () ?_ [] ?_))))))))))
                      · as_aux_lemma => kernel_rfl
                      · (try simp [usedB] at *); simp_all [RV, actOk, noReq, reqEq, allKeep, usedB, List.length_pos_iff]
                      · rfl
                    · -- !(inB y58 0 20000) = false
                      have h60 := bh60
                      have h60 := notF h60
                      refine SKIP (OUTN (NEXT (REGION [0, 1] rfl (RUN0 1 [1] [(1, .p 0 0), (52, .v (.slice a_keep_a a.keep.length a_keep_c)), (53, I (a.keep.length : Int)), (61, I (wr ((k : Int) + 1)))] ?_ rfl ?_))))
                      · as_aux_lemma => kernel_rfl
                      refine CAST (d := 61) (vi (wr ((k : Int) + 1))) (vi ((k + 1 : Nat) : Int)) ?_ (vi_cast (by omega) (by omega)) ?_
                      · as_aux_lemma => kernel_rfl
                      refine RUN0 1 [] [(1, .p 0 0), (52, .v (.slice a_keep_a a.keep.length a_keep_c)), (53, I (a.keep.length : Int)), (54, I ((k + 1 : Nat) : Int))] ?_ rfl ?_
                      · as_aux_lemma => kernel_rfl
                      refine ENDOPS (BACK (k + 1, ys59) [1, 52, 53, 54] 1 [] _ ⟨hl_y58, hd_y58, hv0.trans (by simp [allKeep, *])⟩ (by simp) ?_ rfl rfl rfl)
                      · as_aux_lemma => kernel_rfl
                  · -- decide ((k : Int) < (a.keep.length : Int)) = false
                    have h57 := bh57
                    have h57 := of_decide_eq_false h57
                    obtain rfl := drop_nil hk (by omega)
                    refine EXIT (PASS trivial (PASS trivial (OUT (NEXT (SEQ (REGION [0, 1, 2, 3, 4] rfl (RUN0 5 [] [(2, B (decide ((a.keep.length : Int) ≤ 3)))] ?_ rfl ?_)))))))
                    · as_aux_lemma => kernel_rfl
                    refine ENDOPS (NEXT (RET (OUTR (PASS trivial (FIN (.bool (decide ((a.keep.length : Int) ≤ 3))) ?_ () ?_ [] ?_)))))
                    · as_aux_lemma => kernel_rfl
                    · (try simp [usedB] at *); simp_all [RV, actOk, noReq, reqEq, allKeep, usedB, List.length_pos_iff]
                    · rfl
                · -- a.kind == 4 = false
                  have h56 := bh56
                  have h56 := ne_of_beq_false h56
                  refine SKIP (OUTN (NEXT (SEQ (REGION [0] rfl (RUN0 1 [] [(2, B false)] ?_ rfl ?_)))))
                  · as_aux_lemma => kernel_rfl
                  refine ENDOPS (NEXT (RET (FIN (.bool false) ?_ () ?_ [] ?_)))
                  · as_aux_lemma => kernel_rfl
                  · (try simp [usedB] at *); simp_all [RV, actOk, noReq, reqEq, allKeep, usedB, List.length_pos_iff]
                  · rfl
    · -- a.kind != 3 = false
      have h41 := bh41
      have h41 := bneF h41
      refine RUN0 10 [24, 25, 26, 27, 28, 29] [(1, .p 0 0), (24, B false), (28, B (a.kind != 4))] ?_ rfl ?_
      · as_aux_lemma => kernel_rfl
      refine SPLIT (d := 28) (a.kind != 4) ?_ (fun bh61 => ?_) (fun bh61 => ?_)
      · as_aux_lemma => kernel_rfl
      · -- a.kind != 4 = true
        have h61 := bh61
        have h61 := bne_iff_ne.1 h61
        refine RUN0 6 [] [(1, .p 0 0), (34, B (decide ((a.keep.length : Int) > 0)))] ?_ rfl ?_
        · as_aux_lemma => kernel_rfl
        refine ENDOPS (NEXT (IF (decide ((a.keep.length : Int) > 0)) ?_ (fun bh62 => ?_) (fun bh62 => ?_)))
        · as_aux_lemma => kernel_rfl
        · -- decide ((a.keep.length : Int) > 0) = true
          have h62 := bh62
          have h62 := of_decide_eq_true h62
          refine SEQ (REGION [0] rfl (RUN0 1 [] [(2, B false)] ?_ rfl ?_))
          · as_aux_lemma => kernel_rfl
          refine ENDOPS (NEXT (RET (PASS trivial (FIN (.bool false) ?_ () ?_ [] ?_))))
          · as_aux_lemma => kernel_rfl
          · (try simp [usedB] at *); simp_all [RV, actOk, noReq, reqEq, allKeep, usedB, List.length_pos_iff]
          · rfl
        · -- decide ((a.keep.length : Int) > 0) = false
          have h62 := bh62
          have h62 := of_decide_eq_false h62
          refine SKIP (NEXT (SEQ (SEQ (REGION [0, 1] rfl (RUN0 2 [] [(1, .p 0 0), (36, I a.kind)] ?_ rfl ?_)))))
          · as_aux_lemma => kernel_rfl
          refine ENDOPS (NEXT (BLOCK (SEQ (REGION [0, 1] rfl (RUN0 2 [] [(1, .p 0 0), (36, I a.kind), (37, B (a.kind == 1))] ?_ rfl ?_)))))
          · as_aux_lemma => kernel_rfl
          refine ENDOPS (NEXT (IF (a.kind == 1) ?_ (fun bh63 => ?_) (fun bh63 => ?_)))
          · as_aux_lemma => kernel_rfl
          · -- a.kind == 1 = true
            have h63 := bh63
            have h63 := eq_of_beq h63
            refine SEQ (REGION [0, 1, 2, 3] rfl (RUN0 2 [2, 3] [(40, .v (.agg #[vi a.req.kind, vi a.req.id, vi a.req.cabin, vi a.req.from', vi a.req.size, vi a.req.tier]))] ?_ rfl ?_))
            · as_aux_lemma => kernel_rfl
            refine OPC (CALL 29 #[.agg #[vi a.req.kind, vi a.req.id, vi a.req.cabin, vi a.req.from', vi a.req.size, vi a.req.tier]] (some 41) ?_ [] [] _ rfl (RV (.bool (reqOk a.req))) (fun w hw => iReqOk_c w a.req) (by rintro _ ⟨⟩; exact Nat.le_of_ble_eq_true rfl) ?_)
            · as_aux_lemma => kernel_rfl
            rintro ⟨⟩
            refine RUN0 1 [] [(2, B (reqOk a.req))] ?_ rfl ?_
            · as_aux_lemma => kernel_rfl
            refine ENDOPS (NEXT (RET (OUTR (PASS trivial (FIN (.bool (reqOk a.req)) ?_ () ?_ [] ?_)))))
            · as_aux_lemma => kernel_rfl
            · (try simp [usedB] at *); simp_all [RV, actOk, noReq, reqEq, allKeep, usedB, List.length_pos_iff]
            · rfl
          · -- a.kind == 1 = false
            have h63 := bh63
            have h63 := ne_of_beq_false h63
            refine SEQ (REGION [0, 1] rfl (RUN0 2 [] [(1, .p 0 0), (36, I a.kind), (42, B (a.kind == 2))] ?_ rfl ?_))
            · as_aux_lemma => kernel_rfl
            refine ENDOPS (NEXT (IF (a.kind == 2) ?_ (fun bh64 => ?_) (fun bh64 => ?_)))
            · as_aux_lemma => kernel_rfl
            · -- a.kind == 2 = true
              have h64 := bh64
              have h64 := eq_of_beq h64
              refine SEQ (REGION [0] rfl (RUN0 1 [] [(2, B true)] ?_ rfl ?_))
              · as_aux_lemma => kernel_rfl
              refine ENDOPS (NEXT (RET (OUTR (PASS trivial (FIN (.bool true) ?_ () ?_ [] ?_)))))
              · as_aux_lemma => kernel_rfl
              · (try simp [usedB] at *); simp_all [RV, actOk, noReq, reqEq, allKeep, usedB, List.length_pos_iff]
              · rfl
            · -- a.kind == 2 = false
              have h64 := bh64
              have h64 := ne_of_beq_false h64
              refine SEQ (REGION [0, 1] rfl (RUN0 2 [] [(1, .p 0 0), (36, I a.kind), (44, B (a.kind == 3))] ?_ rfl ?_))
              · as_aux_lemma => kernel_rfl
              refine ENDOPS (NEXT (IF (a.kind == 3) ?_ (fun bh65 => ?_) (fun bh65 => ?_)))
              · as_aux_lemma => kernel_rfl
              · -- a.kind == 3 = true
                have h65 := bh65
                have h65 := eq_of_beq h65
                refine SEQ (REGION [0, 1, 2, 3] rfl (RUN0 2 [2, 3] [(47, I a.n)] ?_ rfl ?_))
                · as_aux_lemma => kernel_rfl
                refine OPC (CALL 33 #[vi a.n, vi 0, vi 9999] (some 48) ?_ [] [] _ rfl (RV (.bool (inB a.n 0 9999))) (fun w hw => within_c w a.n 0 9999) (by rintro _ ⟨⟩; exact Nat.le_of_ble_eq_true rfl) ?_)
                · as_aux_lemma => kernel_rfl
                rintro ⟨⟩
                refine RUN0 1 [] [(2, B (inB a.n 0 9999))] ?_ rfl ?_
                · as_aux_lemma => kernel_rfl
                refine ENDOPS (NEXT (RET (OUTR (PASS trivial (FIN (.bool (inB a.n 0 9999)) ?_ () ?_ [] ?_)))))
                · as_aux_lemma => kernel_rfl
                · (try simp [usedB] at *); simp_all [RV, actOk, noReq, reqEq, allKeep, usedB, List.length_pos_iff]
                · rfl
              · -- a.kind == 3 = false
                have h65 := bh65
                have h65 := ne_of_beq_false h65
                refine SEQ (REGION [0, 1] rfl (RUN0 2 [] [(1, .p 0 0), (49, B (a.kind == 4))] ?_ rfl ?_))
                · as_aux_lemma => kernel_rfl
                refine ENDOPS (NEXT (IF (a.kind == 4) ?_ (fun bh66 => ?_) (fun bh66 => ?_)))
                · as_aux_lemma => kernel_rfl
                · -- a.kind == 4 = true
                  have h66 := bh66
                  have h66 := eq_of_beq h66
                  refine SEQ (SEQ (REGION [0, 1, 2, 3] rfl (RUN0 4 [] [(1, .p 0 0), (52, .v (.slice a_keep_a a.keep.length a_keep_c)), (53, I (a.keep.length : Int)), (54, I 0)] ?_ rfl ?_)))
                  · as_aux_lemma => kernel_rfl
                  refine ENDOPS (NEXT (BLOCK (LOOP (ι := Nat × (List Int)) (fun j => [(1, .p 0 0), (52, .v (.slice a_keep_a a.keep.length a_keep_c)), (53, I (a.keep.length : Int)), (54, I (j.1 : Int))]) (fun j => [(26, [vi a.kind, vi a.req.kind, vi a.req.id, vi a.req.cabin, vi a.req.from', vi a.req.size, vi a.req.tier, vi a.n, .slice a_keep_a a.keep.length a_keep_c])]) (fun j => []) (fun j => j.1 + j.2.length = a.keep.length ∧ a.keep.drop j.1 = j.2 ∧ allKeep a.keep = allKeep j.2) (fun j => j.2.length) (0, a.keep) [1, 52, 53, 54] ⟨by simp, rfl, rfl⟩ ?_ rfl rfl ?_)))
                  · as_aux_lemma => kernel_rfl
                  rintro ⟨k, ys⟩ ⟨hk, hd, hv0⟩
                  dsimp only at hk hd hv0
                  refine SEQ (REGION [0] rfl (RUN0 1 [] [(1, .p 0 0), (52, .v (.slice a_keep_a a.keep.length a_keep_c)), (53, I (a.keep.length : Int)), (54, I (k : Int)), (55, B (decide ((k : Int) < (a.keep.length : Int))))] ?_ rfl ?_))
                  · as_aux_lemma => kernel_rfl
                  refine ENDOPS (NEXT (SEQ (IF (decide ((k : Int) < (a.keep.length : Int))) ?_ (fun bh67 => ?_) (fun bh67 => ?_))))
                  · as_aux_lemma => kernel_rfl
                  · -- decide ((k : Int) < (a.keep.length : Int)) = true
                    have h67 := bh67
                    have h67 := of_decide_eq_true h67
                    obtain ⟨y68, ys69, rfl, hx_y68, hd_y68, hl_y68⟩ := drop_cons hd hk (by omega)
                    refine SKIP (NEXT (SEQ (BLOCK (SEQ (REGION [0, 1, 2] rfl (OPC (INDEX 24 (.tmp 52) (.tmp 54) 56 0 ?_ (Nat.le_of_ble_eq_true rfl) a_keep_a a.keep.length a_keep_c .i64 (k : Int) 3 1 ?_ ?_ ?_ ?_ (Rd.some ha_keep (by omega)) (by omega) (by omega) ?_)))))))
                    · as_aux_lemma => kernel_rfl
                    · as_aux_lemma => kernel_rfl
                    · as_aux_lemma => kernel_rfl
                    · as_aux_lemma => kernel_rfl
                    · as_aux_lemma => kernel_rfl
                    refine OPC (LOADE 3 (.tmp 56) 57 3 ?_ (Nat.le_of_ble_eq_true rfl) a_keep_a (k * 1) 0 [vi y68] (vi y68) ?_ (fun w hw => (ha_keep.fr hw.fr).flat hx_y68) ?_ ?_)
                    · as_aux_lemma => kernel_rfl
                    · as_aux_lemma => kernel_rfl
                    · as_aux_lemma => kernel_rfl
                    refine RUN0 1 [] [(1, .p 0 0), (4, I y68), (52, .v (.slice a_keep_a a.keep.length a_keep_c)), (53, I (a.keep.length : Int)), (54, I (k : Int))] ?_ rfl ?_
                    · as_aux_lemma => kernel_rfl
                    refine ENDOPS (NEXT (SEQ (REGION [0, 1, 2] rfl (RUN0 1 [1, 2] [(1, .p 0 0), (52, .v (.slice a_keep_a a.keep.length a_keep_c)), (53, I (a.keep.length : Int)), (54, I (k : Int)), (58, I y68)] ?_ rfl ?_))))
                    · as_aux_lemma => kernel_rfl
                    refine OPC (CALL 33 #[vi y68, vi 0, vi 20000] (some 59) ?_ [] [] _ rfl (RV (.bool (inB y68 0 20000))) (fun w hw => within_c w y68 0 20000) (by rintro _ ⟨⟩; exact Nat.le_of_ble_eq_true rfl) ?_)
                    · as_aux_lemma => kernel_rfl
                    rintro ⟨⟩
                    refine RUN0 1 [] [(1, .p 0 0), (52, .v (.slice a_keep_a a.keep.length a_keep_c)), (53, I (a.keep.length : Int)), (54, I (k : Int)), (60, B (!(inB y68 0 20000)))] ?_ rfl ?_
                    · as_aux_lemma => kernel_rfl
                    refine ENDOPS (NEXT (IF (!(inB y68 0 20000)) ?_ (fun bh70 => ?_) (fun bh70 => ?_)))
                    · as_aux_lemma => kernel_rfl
                    · -- !(inB y68 0 20000) = true
                      have h70 := bh70
                      have h70 := notT h70
                      refine SEQ (REGION [0] rfl (RUN0 1 [] [(2, B false)] ?_ rfl ?_))
                      · as_aux_lemma => kernel_rfl
                      refine ENDOPS (NEXT (RET (OUTR (PASS trivial (PASS trivial (OUTR (PASS trivial (OUTR (PASS trivial (FIN (.bool false) ?_ () ?_ [] ?_))))))))))
                      · as_aux_lemma => kernel_rfl
                      · (try simp [usedB] at *); simp_all [RV, actOk, noReq, reqEq, allKeep, usedB, List.length_pos_iff]
                      · rfl
                    · -- !(inB y68 0 20000) = false
                      have h70 := bh70
                      have h70 := notF h70
                      refine SKIP (OUTN (NEXT (REGION [0, 1] rfl (RUN0 1 [1] [(1, .p 0 0), (52, .v (.slice a_keep_a a.keep.length a_keep_c)), (53, I (a.keep.length : Int)), (61, I (wr ((k : Int) + 1)))] ?_ rfl ?_))))
                      · as_aux_lemma => kernel_rfl
                      refine CAST (d := 61) (vi (wr ((k : Int) + 1))) (vi ((k + 1 : Nat) : Int)) ?_ (vi_cast (by omega) (by omega)) ?_
                      · as_aux_lemma => kernel_rfl
                      refine RUN0 1 [] [(1, .p 0 0), (52, .v (.slice a_keep_a a.keep.length a_keep_c)), (53, I (a.keep.length : Int)), (54, I ((k + 1 : Nat) : Int))] ?_ rfl ?_
                      · as_aux_lemma => kernel_rfl
                      refine ENDOPS (BACK (k + 1, ys69) [1, 52, 53, 54] 1 [] _ ⟨hl_y68, hd_y68, hv0.trans (by simp [allKeep, *])⟩ (by simp) ?_ rfl rfl rfl)
                      · as_aux_lemma => kernel_rfl
                  · -- decide ((k : Int) < (a.keep.length : Int)) = false
                    have h67 := bh67
                    have h67 := of_decide_eq_false h67
                    obtain rfl := drop_nil hk (by omega)
                    refine EXIT (PASS trivial (PASS trivial (OUT (NEXT (SEQ (REGION [0, 1, 2, 3, 4] rfl (RUN0 5 [] [(2, B (decide ((a.keep.length : Int) ≤ 3)))] ?_ rfl ?_)))))))
                    · as_aux_lemma => kernel_rfl
                    refine ENDOPS (NEXT (RET (OUTR (PASS trivial (FIN (.bool (decide ((a.keep.length : Int) ≤ 3))) ?_ () ?_ [] ?_)))))
                    · as_aux_lemma => kernel_rfl
                    · (try simp [usedB] at *); simp_all [RV, actOk, noReq, reqEq, allKeep, usedB, List.length_pos_iff]
                    · rfl
                · -- a.kind == 4 = false
                  have h66 := bh66
                  have h66 := ne_of_beq_false h66
                  refine SKIP (OUTN (NEXT (SEQ (REGION [0] rfl (RUN0 1 [] [(2, B false)] ?_ rfl ?_)))))
                  · as_aux_lemma => kernel_rfl
                  refine ENDOPS (NEXT (RET (FIN (.bool false) ?_ () ?_ [] ?_)))
                  · as_aux_lemma => kernel_rfl
                  · (try simp [usedB] at *); simp_all [RV, actOk, noReq, reqEq, allKeep, usedB, List.length_pos_iff]
                  · rfl
      · -- a.kind != 4 = false
        have h61 := bh61
        have h61 := bneF h61
        refine RUN0 6 [] [(1, .p 0 0), (34, B false)] ?_ rfl ?_
        · as_aux_lemma => kernel_rfl
        refine ENDOPS (NEXT (IFF ?_ ?_))
        · as_aux_lemma => kernel_rfl
        refine SKIP (NEXT (SEQ (SEQ (REGION [0, 1] rfl (RUN0 2 [] [(1, .p 0 0), (36, I a.kind)] ?_ rfl ?_)))))
        · as_aux_lemma => kernel_rfl
        refine ENDOPS (NEXT (BLOCK (SEQ (REGION [0, 1] rfl (RUN0 2 [] [(1, .p 0 0), (36, I a.kind), (37, B (a.kind == 1))] ?_ rfl ?_)))))
        · as_aux_lemma => kernel_rfl
        refine ENDOPS (NEXT (IF (a.kind == 1) ?_ (fun bh71 => ?_) (fun bh71 => ?_)))
        · as_aux_lemma => kernel_rfl
        · -- a.kind == 1 = true
          have h71 := bh71
          have h71 := eq_of_beq h71
          refine SEQ (REGION [0, 1, 2, 3] rfl (RUN0 2 [2, 3] [(40, .v (.agg #[vi a.req.kind, vi a.req.id, vi a.req.cabin, vi a.req.from', vi a.req.size, vi a.req.tier]))] ?_ rfl ?_))
          · as_aux_lemma => kernel_rfl
          refine OPC (CALL 29 #[.agg #[vi a.req.kind, vi a.req.id, vi a.req.cabin, vi a.req.from', vi a.req.size, vi a.req.tier]] (some 41) ?_ [] [] _ rfl (RV (.bool (reqOk a.req))) (fun w hw => iReqOk_c w a.req) (by rintro _ ⟨⟩; exact Nat.le_of_ble_eq_true rfl) ?_)
          · as_aux_lemma => kernel_rfl
          rintro ⟨⟩
          refine RUN0 1 [] [(2, B (reqOk a.req))] ?_ rfl ?_
          · as_aux_lemma => kernel_rfl
          refine ENDOPS (NEXT (RET (OUTR (PASS trivial (FIN (.bool (reqOk a.req)) ?_ () ?_ [] ?_)))))
          · as_aux_lemma => kernel_rfl
          · (try simp [usedB] at *); simp_all [RV, actOk, noReq, reqEq, allKeep, usedB, List.length_pos_iff]
          · rfl
        · -- a.kind == 1 = false
          have h71 := bh71
          have h71 := ne_of_beq_false h71
          refine SEQ (REGION [0, 1] rfl (RUN0 2 [] [(1, .p 0 0), (36, I a.kind), (42, B (a.kind == 2))] ?_ rfl ?_))
          · as_aux_lemma => kernel_rfl
          refine ENDOPS (NEXT (IF (a.kind == 2) ?_ (fun bh72 => ?_) (fun bh72 => ?_)))
          · as_aux_lemma => kernel_rfl
          · -- a.kind == 2 = true
            have h72 := bh72
            have h72 := eq_of_beq h72
            refine SEQ (REGION [0] rfl (RUN0 1 [] [(2, B true)] ?_ rfl ?_))
            · as_aux_lemma => kernel_rfl
            refine ENDOPS (NEXT (RET (OUTR (PASS trivial (FIN (.bool true) ?_ () ?_ [] ?_)))))
            · as_aux_lemma => kernel_rfl
            · (try simp [usedB] at *); simp_all [RV, actOk, noReq, reqEq, allKeep, usedB, List.length_pos_iff]
            · rfl
          · -- a.kind == 2 = false
            have h72 := bh72
            have h72 := ne_of_beq_false h72
            refine SEQ (REGION [0, 1] rfl (RUN0 2 [] [(1, .p 0 0), (36, I a.kind), (44, B (a.kind == 3))] ?_ rfl ?_))
            · as_aux_lemma => kernel_rfl
            refine ENDOPS (NEXT (IF (a.kind == 3) ?_ (fun bh73 => ?_) (fun bh73 => ?_)))
            · as_aux_lemma => kernel_rfl
            · -- a.kind == 3 = true
              have h73 := bh73
              have h73 := eq_of_beq h73
              refine SEQ (REGION [0, 1, 2, 3] rfl (RUN0 2 [2, 3] [(47, I a.n)] ?_ rfl ?_))
              · as_aux_lemma => kernel_rfl
              refine OPC (CALL 33 #[vi a.n, vi 0, vi 9999] (some 48) ?_ [] [] _ rfl (RV (.bool (inB a.n 0 9999))) (fun w hw => within_c w a.n 0 9999) (by rintro _ ⟨⟩; exact Nat.le_of_ble_eq_true rfl) ?_)
              · as_aux_lemma => kernel_rfl
              rintro ⟨⟩
              refine RUN0 1 [] [(2, B (inB a.n 0 9999))] ?_ rfl ?_
              · as_aux_lemma => kernel_rfl
              refine ENDOPS (NEXT (RET (OUTR (PASS trivial (FIN (.bool (inB a.n 0 9999)) ?_ () ?_ [] ?_)))))
              · as_aux_lemma => kernel_rfl
              · (try simp [usedB] at *); simp_all [RV, actOk, noReq, reqEq, allKeep, usedB, List.length_pos_iff]
              · rfl
            · -- a.kind == 3 = false
              have h73 := bh73
              have h73 := ne_of_beq_false h73
              refine SEQ (REGION [0, 1] rfl (RUN0 2 [] [(1, .p 0 0), (49, B (a.kind == 4))] ?_ rfl ?_))
              · as_aux_lemma => kernel_rfl
              refine ENDOPS (NEXT (IF (a.kind == 4) ?_ (fun bh74 => ?_) (fun bh74 => ?_)))
              · as_aux_lemma => kernel_rfl
              · -- a.kind == 4 = true
                have h74 := bh74
                have h74 := eq_of_beq h74
                refine SEQ (SEQ (REGION [0, 1, 2, 3] rfl (RUN0 4 [] [(1, .p 0 0), (52, .v (.slice a_keep_a a.keep.length a_keep_c)), (53, I (a.keep.length : Int)), (54, I 0)] ?_ rfl ?_)))
                · as_aux_lemma => kernel_rfl
                refine ENDOPS (NEXT (BLOCK (LOOP (ι := Nat × (List Int)) (fun j => [(1, .p 0 0), (52, .v (.slice a_keep_a a.keep.length a_keep_c)), (53, I (a.keep.length : Int)), (54, I (j.1 : Int))]) (fun j => [(26, [vi a.kind, vi a.req.kind, vi a.req.id, vi a.req.cabin, vi a.req.from', vi a.req.size, vi a.req.tier, vi a.n, .slice a_keep_a a.keep.length a_keep_c])]) (fun j => []) (fun j => j.1 + j.2.length = a.keep.length ∧ a.keep.drop j.1 = j.2 ∧ allKeep a.keep = allKeep j.2) (fun j => j.2.length) (0, a.keep) [1, 52, 53, 54] ⟨by simp, rfl, rfl⟩ ?_ rfl rfl ?_)))
                · as_aux_lemma => kernel_rfl
                rintro ⟨k, ys⟩ ⟨hk, hd, hv0⟩
                dsimp only at hk hd hv0
                refine SEQ (REGION [0] rfl (RUN0 1 [] [(1, .p 0 0), (52, .v (.slice a_keep_a a.keep.length a_keep_c)), (53, I (a.keep.length : Int)), (54, I (k : Int)), (55, B (decide ((k : Int) < (a.keep.length : Int))))] ?_ rfl ?_))
                · as_aux_lemma => kernel_rfl
                refine ENDOPS (NEXT (SEQ (IF (decide ((k : Int) < (a.keep.length : Int))) ?_ (fun bh75 => ?_) (fun bh75 => ?_))))
                · as_aux_lemma => kernel_rfl
                · -- decide ((k : Int) < (a.keep.length : Int)) = true
                  have h75 := bh75
                  have h75 := of_decide_eq_true h75
                  obtain ⟨y76, ys77, rfl, hx_y76, hd_y76, hl_y76⟩ := drop_cons hd hk (by omega)
                  refine SKIP (NEXT (SEQ (BLOCK (SEQ (REGION [0, 1, 2] rfl (OPC (INDEX 24 (.tmp 52) (.tmp 54) 56 0 ?_ (Nat.le_of_ble_eq_true rfl) a_keep_a a.keep.length a_keep_c .i64 (k : Int) 3 1 ?_ ?_ ?_ ?_ (Rd.some ha_keep (by omega)) (by omega) (by omega) ?_)))))))
                  · as_aux_lemma => kernel_rfl
                  · as_aux_lemma => kernel_rfl
                  · as_aux_lemma => kernel_rfl
                  · as_aux_lemma => kernel_rfl
                  · as_aux_lemma => kernel_rfl
                  refine OPC (LOADE 3 (.tmp 56) 57 3 ?_ (Nat.le_of_ble_eq_true rfl) a_keep_a (k * 1) 0 [vi y76] (vi y76) ?_ (fun w hw => (ha_keep.fr hw.fr).flat hx_y76) ?_ ?_)
                  · as_aux_lemma => kernel_rfl
                  · as_aux_lemma => kernel_rfl
                  · as_aux_lemma => kernel_rfl
                  refine RUN0 1 [] [(1, .p 0 0), (4, I y76), (52, .v (.slice a_keep_a a.keep.length a_keep_c)), (53, I (a.keep.length : Int)), (54, I (k : Int))] ?_ rfl ?_
                  · as_aux_lemma => kernel_rfl
                  refine ENDOPS (NEXT (SEQ (REGION [0, 1, 2] rfl (RUN0 1 [1, 2] [(1, .p 0 0), (52, .v (.slice a_keep_a a.keep.length a_keep_c)), (53, I (a.keep.length : Int)), (54, I (k : Int)), (58, I y76)] ?_ rfl ?_))))
                  · as_aux_lemma => kernel_rfl
                  refine OPC (CALL 33 #[vi y76, vi 0, vi 20000] (some 59) ?_ [] [] _ rfl (RV (.bool (inB y76 0 20000))) (fun w hw => within_c w y76 0 20000) (by rintro _ ⟨⟩; exact Nat.le_of_ble_eq_true rfl) ?_)
                  · as_aux_lemma => kernel_rfl
                  rintro ⟨⟩
                  refine RUN0 1 [] [(1, .p 0 0), (52, .v (.slice a_keep_a a.keep.length a_keep_c)), (53, I (a.keep.length : Int)), (54, I (k : Int)), (60, B (!(inB y76 0 20000)))] ?_ rfl ?_
                  · as_aux_lemma => kernel_rfl
                  refine ENDOPS (NEXT (IF (!(inB y76 0 20000)) ?_ (fun bh78 => ?_) (fun bh78 => ?_)))
                  · as_aux_lemma => kernel_rfl
                  · -- !(inB y76 0 20000) = true
                    have h78 := bh78
                    have h78 := notT h78
                    refine SEQ (REGION [0] rfl (RUN0 1 [] [(2, B false)] ?_ rfl ?_))
                    · as_aux_lemma => kernel_rfl
                    refine ENDOPS (NEXT (RET (OUTR (PASS trivial (PASS trivial (OUTR (PASS trivial (OUTR (PASS trivial (FIN (.bool false) ?_ () ?_ [] ?_))))))))))
                    · as_aux_lemma => kernel_rfl
                    · (try simp [usedB] at *); simp_all [RV, actOk, noReq, reqEq, allKeep, usedB, List.length_pos_iff]
                    · rfl
                  · -- !(inB y76 0 20000) = false
                    have h78 := bh78
                    have h78 := notF h78
                    refine SKIP (OUTN (NEXT (REGION [0, 1] rfl (RUN0 1 [1] [(1, .p 0 0), (52, .v (.slice a_keep_a a.keep.length a_keep_c)), (53, I (a.keep.length : Int)), (61, I (wr ((k : Int) + 1)))] ?_ rfl ?_))))
                    · as_aux_lemma => kernel_rfl
                    refine CAST (d := 61) (vi (wr ((k : Int) + 1))) (vi ((k + 1 : Nat) : Int)) ?_ (vi_cast (by omega) (by omega)) ?_
                    · as_aux_lemma => kernel_rfl
                    refine RUN0 1 [] [(1, .p 0 0), (52, .v (.slice a_keep_a a.keep.length a_keep_c)), (53, I (a.keep.length : Int)), (54, I ((k + 1 : Nat) : Int))] ?_ rfl ?_
                    · as_aux_lemma => kernel_rfl
                    refine ENDOPS (BACK (k + 1, ys77) [1, 52, 53, 54] 1 [] _ ⟨hl_y76, hd_y76, hv0.trans (by simp [allKeep, *])⟩ (by simp) ?_ rfl rfl rfl)
                    · as_aux_lemma => kernel_rfl
                · -- decide ((k : Int) < (a.keep.length : Int)) = false
                  have h75 := bh75
                  have h75 := of_decide_eq_false h75
                  obtain rfl := drop_nil hk (by omega)
                  refine EXIT (PASS trivial (PASS trivial (OUT (NEXT (SEQ (REGION [0, 1, 2, 3, 4] rfl (RUN0 5 [] [(2, B (decide ((a.keep.length : Int) ≤ 3)))] ?_ rfl ?_)))))))
                  · as_aux_lemma => kernel_rfl
                  refine ENDOPS (NEXT (RET (OUTR (PASS trivial (FIN (.bool (decide ((a.keep.length : Int) ≤ 3))) ?_ () ?_ [] ?_)))))
                  · as_aux_lemma => kernel_rfl
                  · (try simp [usedB] at *); simp_all [RV, actOk, noReq, reqEq, allKeep, usedB, List.length_pos_iff]
                  · rfl
              · -- a.kind == 4 = false
                have h74 := bh74
                have h74 := ne_of_beq_false h74
                refine SKIP (OUTN (NEXT (SEQ (REGION [0] rfl (RUN0 1 [] [(2, B false)] ?_ rfl ?_)))))
                · as_aux_lemma => kernel_rfl
                refine ENDOPS (NEXT (RET (FIN (.bool false) ?_ () ?_ [] ?_)))
                · as_aux_lemma => kernel_rfl
                · (try simp [usedB] at *); simp_all [RV, actOk, noReq, reqEq, allKeep, usedB, List.length_pos_iff]
                · rfl

theorem eqAct_c (W : World) (a : Act) (a_keep_a : Option Addr) (a_keep_c : Nat) (ha_keep : Rd intL W a_keep_a a.keep) (b : Act) (b_keep_a : Option Addr) (b_keep_c : Nat) (hb_keep : Rd intL W b_keep_a b.keep) : Spec Tryd.prog W [] 6 #[.agg #[vi a.kind, vi a.req.kind, vi a.req.id, vi a.req.cabin, vi a.req.from', vi a.req.size, vi a.req.tier, vi a.n, .slice a_keep_a a.keep.length a_keep_c], .agg #[vi b.kind, vi b.req.kind, vi b.req.id, vi b.req.cabin, vi b.req.from', vi b.req.size, vi b.req.tier, vi b.n, .slice b_keep_a b.keep.length b_keep_c]] (RV (.bool (eqAct a b))) := by
  refine ENTER0 (N := 27) (vs := [.agg #[vi a.kind, vi a.req.kind, vi a.req.id, vi a.req.cabin, vi a.req.from', vi a.req.size, vi a.req.tier, vi a.n, .slice a_keep_a a.keep.length a_keep_c], .agg #[vi b.kind, vi b.req.kind, vi b.req.id, vi b.req.cabin, vi b.req.from', vi b.req.size, vi b.req.tier, vi b.n, .slice b_keep_a b.keep.length b_keep_c]]) Tryd.func6 rfl rfl (Nat.le_of_ble_eq_true rfl) ?_
  have ha_keep_len := ha_keep.len
  have hb_keep_len := hb_keep.len
  refine SEQ (REGION [0, 1, 2] rfl (RUN 3 [] [(2, .p 0 0), (3, .p 1 0)] [(26, [vi a.kind, vi a.req.kind, vi a.req.id, vi a.req.cabin, vi a.req.from', vi a.req.size, vi a.req.tier, vi a.n, .slice a_keep_a a.keep.length a_keep_c]), (26, [vi b.kind, vi b.req.kind, vi b.req.id, vi b.req.cabin, vi b.req.from', vi b.req.size, vi b.req.tier, vi b.n, .slice b_keep_a b.keep.length b_keep_c])] ?_ rfl ?_))
  · as_aux_lemma => kernel_rfl
  refine ENDOPS (NEXT (SEQ (SEQ (REGION [0, 1, 2, 3, 4] rfl (RUN0 5 [] [(2, .p 0 0), (3, .p 1 0), (9, B (a.kind != b.kind))] ?_ rfl ?_)))))
  · as_aux_lemma => kernel_rfl
  refine ENDOPS (NEXT (IF (a.kind != b.kind) ?_ (fun bh1 => ?_) (fun bh1 => ?_)))
  · as_aux_lemma => kernel_rfl
  · -- a.kind != b.kind = true
    have h1 := bh1
    have h1 := bne_iff_ne.1 h1
    refine SEQ (REGION [0] rfl (RUN0 1 [] [(4, B false)] ?_ rfl ?_))
    · as_aux_lemma => kernel_rfl
    refine ENDOPS (NEXT (RET (PASS trivial (FIN (.bool false) ?_ () ?_ [] ?_))))
    · as_aux_lemma => kernel_rfl
    · simp [RV, eqAct, *]
    · rfl
  · -- a.kind != b.kind = false
    have h1 := bh1
    have h1 := bneF h1
    refine SKIP (NEXT (SEQ (SEQ (REGION [0, 1, 2, 3, 4, 5] rfl (RUN0 4 [4, 5] [(2, .p 0 0), (3, .p 1 0), (11, .v (.agg #[vi a.req.kind, vi a.req.id, vi a.req.cabin, vi a.req.from', vi a.req.size, vi a.req.tier])), (13, .v (.agg #[vi b.req.kind, vi b.req.id, vi b.req.cabin, vi b.req.from', vi b.req.size, vi b.req.tier]))] ?_ rfl ?_)))))
    · as_aux_lemma => kernel_rfl
    refine OPC (CALL 19 #[.agg #[vi a.req.kind, vi a.req.id, vi a.req.cabin, vi a.req.from', vi a.req.size, vi a.req.tier], .agg #[vi b.req.kind, vi b.req.id, vi b.req.cabin, vi b.req.from', vi b.req.size, vi b.req.tier]] (some 14) ?_ [] [] _ rfl (RV (.bool (eqReq a.req b.req))) (fun w hw => eqReq_c w a.req b.req) (by rintro _ ⟨⟩; exact Nat.le_of_ble_eq_true rfl) ?_)
    · as_aux_lemma => kernel_rfl
    rintro ⟨⟩
    refine RUN0 1 [] [(2, .p 0 0), (3, .p 1 0), (15, B (!(eqReq a.req b.req)))] ?_ rfl ?_
    · as_aux_lemma => kernel_rfl
    refine ENDOPS (NEXT (IF (!(eqReq a.req b.req)) ?_ (fun bh2 => ?_) (fun bh2 => ?_)))
    · as_aux_lemma => kernel_rfl
    · -- !(eqReq a.req b.req) = true
      have h2 := bh2
      have h2 := notT h2
      refine SEQ (REGION [0] rfl (RUN0 1 [] [(4, B false)] ?_ rfl ?_))
      · as_aux_lemma => kernel_rfl
      refine ENDOPS (NEXT (RET (PASS trivial (FIN (.bool false) ?_ () ?_ [] ?_))))
      · as_aux_lemma => kernel_rfl
      · simp [RV, eqAct, *]
      · rfl
    · -- !(eqReq a.req b.req) = false
      have h2 := bh2
      have h2 := notF h2
      refine SKIP (NEXT (SEQ (SEQ (REGION [0, 1, 2, 3, 4] rfl (RUN0 5 [] [(2, .p 0 0), (3, .p 1 0), (20, B (a.n != b.n))] ?_ rfl ?_)))))
      · as_aux_lemma => kernel_rfl
      refine ENDOPS (NEXT (IF (a.n != b.n) ?_ (fun bh3 => ?_) (fun bh3 => ?_)))
      · as_aux_lemma => kernel_rfl
      · -- a.n != b.n = true
        have h3 := bh3
        have h3 := bne_iff_ne.1 h3
        refine SEQ (REGION [0] rfl (RUN0 1 [] [(4, B false)] ?_ rfl ?_))
        · as_aux_lemma => kernel_rfl
        refine ENDOPS (NEXT (RET (PASS trivial (FIN (.bool false) ?_ () ?_ [] ?_))))
        · as_aux_lemma => kernel_rfl
        · simp [RV, eqAct, *]
        · rfl
      · -- a.n != b.n = false
        have h3 := bh3
        have h3 := bneF h3
        refine SKIP (NEXT (SEQ (SEQ (REGION [0, 1, 2, 3, 4, 5] rfl (RUN0 4 [4, 5] [(22, .v (.slice a_keep_a a.keep.length a_keep_c)), (24, .v (.slice b_keep_a b.keep.length b_keep_c))] ?_ rfl ?_)))))
        · as_aux_lemma => kernel_rfl
        refine OPC (CALL 20 #[.slice a_keep_a a.keep.length a_keep_c, .slice b_keep_a b.keep.length b_keep_c] (some 25) ?_ [] [] _ rfl (RV (.bool (eqInts a.keep b.keep))) (fun w hw => eqIntS_c w a.keep a_keep_a a_keep_c (ha_keep.fr hw.fr) b.keep b_keep_a b_keep_c (hb_keep.fr hw.fr)) (by rintro _ ⟨⟩; exact Nat.le_of_ble_eq_true rfl) ?_)
        · as_aux_lemma => kernel_rfl
        rintro ⟨⟩
        refine RUN0 1 [] [(26, B (!(eqInts a.keep b.keep)))] ?_ rfl ?_
        · as_aux_lemma => kernel_rfl
        refine ENDOPS (NEXT (IF (!(eqInts a.keep b.keep)) ?_ (fun bh4 => ?_) (fun bh4 => ?_)))
        · as_aux_lemma => kernel_rfl
        · -- !(eqInts a.keep b.keep) = true
          have h4 := bh4
          have h4 := notT h4
          refine SEQ (REGION [0] rfl (RUN0 1 [] [(4, B false)] ?_ rfl ?_))
          · as_aux_lemma => kernel_rfl
          refine ENDOPS (NEXT (RET (PASS trivial (FIN (.bool false) ?_ () ?_ [] ?_))))
          · as_aux_lemma => kernel_rfl
          · simp [RV, eqAct, *]
          · rfl
        · -- !(eqInts a.keep b.keep) = false
          have h4 := bh4
          have h4 := notF h4
          refine SKIP (NEXT (SEQ (REGION [0] rfl (RUN0 1 [] [(4, B true)] ?_ rfl ?_))))
          · as_aux_lemma => kernel_rfl
          refine ENDOPS (NEXT (RET (FIN (.bool true) ?_ () ?_ [] ?_)))
          · as_aux_lemma => kernel_rfl
          · simp [RV, eqAct, *]
          · rfl

theorem sActLine_c (W : World) (a : Act) (a_keep_a : Option Addr) (a_keep_c : Nat) (ha_keep : Rd intL W a_keep_a a.keep) : Spec Tryd.prog W [] 12 #[.agg #[vi a.kind, vi a.req.kind, vi a.req.id, vi a.req.cabin, vi a.req.from', vi a.req.size, vi a.req.tier, vi a.n, .slice a_keep_a a.keep.length a_keep_c]] (RV (.string (bs (actLine a)))) := by
  refine ENTER0 (N := 41) (vs := [.agg #[vi a.kind, vi a.req.kind, vi a.req.id, vi a.req.cabin, vi a.req.from', vi a.req.size, vi a.req.tier, vi a.n, .slice a_keep_a a.keep.length a_keep_c]]) Tryd.func12 rfl rfl (Nat.le_of_ble_eq_true rfl) ?_
  have ha_keep_len := ha_keep.len
  refine SEQ (REGION [0, 1] rfl (RUN 2 [] [(1, .p 0 0)] [(26, [vi a.kind, vi a.req.kind, vi a.req.id, vi a.req.cabin, vi a.req.from', vi a.req.size, vi a.req.tier, vi a.n, .slice a_keep_a a.keep.length a_keep_c])] ?_ rfl ?_))
  · as_aux_lemma => kernel_rfl
  refine ENDOPS (NEXT (SEQ (SEQ (REGION [0, 1, 2] rfl (RUN0 1 [1, 2] [(1, .p 0 0), (5, .v (.agg #[vi a.kind, vi a.req.kind, vi a.req.id, vi a.req.cabin, vi a.req.from', vi a.req.size, vi a.req.tier, vi a.n, .slice a_keep_a a.keep.length a_keep_c]))] ?_ rfl ?_)))))
  · as_aux_lemma => kernel_rfl
  refine OPC (CALL 26 #[.agg #[vi a.kind, vi a.req.kind, vi a.req.id, vi a.req.cabin, vi a.req.from', vi a.req.size, vi a.req.tier, vi a.n, .slice a_keep_a a.keep.length a_keep_c]] (some 6) ?_ [] [] _ rfl (RV (.bool (actOk a))) (fun w hw => sActOk_c w a a_keep_a a_keep_c (ha_keep.fr hw.fr)) (by rintro _ ⟨⟩; exact Nat.le_of_ble_eq_true rfl) ?_)
  · as_aux_lemma => kernel_rfl
  rintro ⟨⟩
  refine RUN0 1 [] [(1, .p 0 0), (7, B (!(actOk a)))] ?_ rfl ?_
  · as_aux_lemma => kernel_rfl
  refine ENDOPS (NEXT (IF (!(actOk a)) ?_ (fun bh1 => ?_) (fun bh1 => ?_)))
  · as_aux_lemma => kernel_rfl
  · -- !(actOk a) = true
    have h1 := bh1
    have h1 := notT h1
    refine SEQ (REGION [0] rfl (RUN0 1 [] [(2, .v (.string (bs ([]))))] ?_ rfl ?_))
    · as_aux_lemma => kernel_rfl
    refine ENDOPS (NEXT (RET (PASS trivial (FIN (.string (bs ([]))) ?_ () ?_ [] ?_))))
    · as_aux_lemma => kernel_rfl
    · (simp_all [RV, actLine, joinSp])
    · rfl
  · -- !(actOk a) = false
    have h1 := bh1
    have h1 := notF h1
    have hq := actOk_rng h1
    refine SKIP (NEXT (SEQ (SEQ (REGION [0, 1] rfl (RUN0 2 [] [(1, .p 0 0), (9, I a.kind)] ?_ rfl ?_)))))
    · as_aux_lemma => kernel_rfl
    refine ENDOPS (NEXT (BLOCK (SEQ (REGION [0, 1] rfl (RUN0 2 [] [(1, .p 0 0), (9, I a.kind), (10, B (a.kind == 1))] ?_ rfl ?_)))))
    · as_aux_lemma => kernel_rfl
    refine ENDOPS (NEXT (IF (a.kind == 1) ?_ (fun bh2 => ?_) (fun bh2 => ?_)))
    · as_aux_lemma => kernel_rfl
    · -- a.kind == 1 = true
      have h2 := bh2
      have h2 := eq_of_beq h2
      refine SEQ (REGION [0, 1, 2, 3, 4] rfl (RUN0 2 [2, 3, 4] [(13, .v (.agg #[vi a.req.kind, vi a.req.id, vi a.req.cabin, vi a.req.from', vi a.req.size, vi a.req.tier]))] ?_ rfl ?_))
      · as_aux_lemma => kernel_rfl
      refine OPC (CALL 24 #[.agg #[vi a.req.kind, vi a.req.id, vi a.req.cabin, vi a.req.from', vi a.req.size, vi a.req.tier]] (some 14) ?_ [] [] _ rfl (RV (.string (bs (reqLine a.req)))) (fun w hw => sReqLine_c w a.req) (by rintro _ ⟨⟩; exact Nat.le_of_ble_eq_true rfl) ?_)
      · as_aux_lemma => kernel_rfl
      rintro ⟨⟩
      have hr3 := reqLine_len a.req
      refine OPC (RUNV (.binOp .add 9 (.const (.string (bs ([108, 97, 121, 32])))) (.tmp 14) 9) 15 9 ?_ (Nat.le_of_ble_eq_true rfl) (.string (bs (([108, 97, 121, 32]) ++ (reqLine a.req)))) (runs_scat (a := [108, 97, 121, 32]) (b := reqLine a.req) ?_ ?_ (by first | omega | (simp only [List.length_append, List.length_cons, List.length_nil, List.length_take, List.length_drop] at *; omega))) ?_)
      · as_aux_lemma => kernel_rfl
      · as_aux_lemma => kernel_rfl
      · as_aux_lemma => kernel_rfl
      refine RUN0 1 [] [(2, .v (.string (bs (([108, 97, 121, 32]) ++ (reqLine a.req)))))] ?_ rfl ?_
      · as_aux_lemma => kernel_rfl
      refine ENDOPS (NEXT (RET (OUTR (PASS trivial (FIN (.string (bs (([108, 97, 121, 32]) ++ (reqLine a.req)))) ?_ () ?_ [] ?_)))))
      · as_aux_lemma => kernel_rfl
      · (simp_all [RV, actLine, joinSp])
      · rfl
    · -- a.kind == 1 = false
      have h2 := bh2
      have h2 := ne_of_beq_false h2
      refine SEQ (REGION [0, 1] rfl (RUN0 2 [] [(1, .p 0 0), (9, I a.kind), (16, B (a.kind == 2))] ?_ rfl ?_))
      · as_aux_lemma => kernel_rfl
      refine ENDOPS (NEXT (IF (a.kind == 2) ?_ (fun bh4 => ?_) (fun bh4 => ?_)))
      · as_aux_lemma => kernel_rfl
      · -- a.kind == 2 = true
        have h4 := bh4
        have h4 := eq_of_beq h4
        refine SEQ (REGION [0] rfl (RUN0 1 [] [(2, .v (.string (bs ([115, 101, 97, 108]))))] ?_ rfl ?_))
        · as_aux_lemma => kernel_rfl
        refine ENDOPS (NEXT (RET (OUTR (PASS trivial (FIN (.string (bs ([115, 101, 97, 108]))) ?_ () ?_ [] ?_)))))
        · as_aux_lemma => kernel_rfl
        · (simp_all [RV, actLine, joinSp])
        · rfl
      · -- a.kind == 2 = false
        have h4 := bh4
        have h4 := ne_of_beq_false h4
        refine SEQ (REGION [0, 1] rfl (RUN0 2 [] [(1, .p 0 0), (18, B (a.kind == 3))] ?_ rfl ?_))
        · as_aux_lemma => kernel_rfl
        refine ENDOPS (NEXT (IF (a.kind == 3) ?_ (fun bh5 => ?_) (fun bh5 => ?_)))
        · as_aux_lemma => kernel_rfl
        · -- a.kind == 3 = true
          have h5 := bh5
          have h5 := eq_of_beq h5
          refine SEQ (REGION [0, 1, 2, 3, 4] rfl (RUN0 2 [2, 3, 4] [(21, I a.n)] ?_ rfl ?_))
          · as_aux_lemma => kernel_rfl
          refine OPC (CALL 27 #[vi a.n] (some 22) ?_ [] [] _ rfl (RV (.string (bs (Lib.itoa a.n)))) (fun w hw => sDigits_c w a.n (by first | assumption | exact wr_range _ | (unfold i64R at *; omega) | (simp only [i64R] at *; omega))) (by rintro _ ⟨⟩; exact Nat.le_of_ble_eq_true rfl) ?_)
          · as_aux_lemma => kernel_rfl
          rintro ⟨⟩
          have hr6 := itoa_len (n := a.n) (by first | assumption | exact wr_range _ | (unfold i64R at *; omega) | (simp only [i64R] at *; omega))
          refine OPC (RUNV (.binOp .add 9 (.const (.string (bs ([109, 97, 114, 107, 32])))) (.tmp 22) 9) 23 9 ?_ (Nat.le_of_ble_eq_true rfl) (.string (bs (([109, 97, 114, 107, 32]) ++ (Lib.itoa a.n)))) (runs_scat (a := [109, 97, 114, 107, 32]) (b := Lib.itoa a.n) ?_ ?_ (by first | omega | (simp only [List.length_append, List.length_cons, List.length_nil, List.length_take, List.length_drop] at *; omega))) ?_)
          · as_aux_lemma => kernel_rfl
          · as_aux_lemma => kernel_rfl
          · as_aux_lemma => kernel_rfl
          refine RUN0 1 [] [(2, .v (.string (bs (([109, 97, 114, 107, 32]) ++ (Lib.itoa a.n)))))] ?_ rfl ?_
          · as_aux_lemma => kernel_rfl
          refine ENDOPS (NEXT (RET (OUTR (PASS trivial (FIN (.string (bs (([109, 97, 114, 107, 32]) ++ (Lib.itoa a.n)))) ?_ () ?_ [] ?_)))))
          · as_aux_lemma => kernel_rfl
          · (simp_all [RV, actLine, joinSp])
          · rfl
        · -- a.kind == 3 = false
          have h5 := bh5
          have h5 := ne_of_beq_false h5
          refine SKIP (OUTN (NEXT (SEQ (REGION [0] rfl (RUN0 1 [] [(1, .p 0 0), (3, .v (.string (bs ([102, 97, 108, 108]))))] ?_ rfl ?_)))))
          · as_aux_lemma => kernel_rfl
          refine ENDOPS (NEXT (SEQ (SEQ (REGION [0] rfl (RUN0 1 [] [(1, .p 0 0), (3, .v (.string (bs ([102, 97, 108, 108])))), (4, I 0)] ?_ rfl ?_)))))
          · as_aux_lemma => kernel_rfl
          refine ENDOPS (NEXT (BLOCK (LOOP (ι := Nat × (List Int) × (List UInt8)) (fun j => [(1, .p 0 0), (3, .v (.string (bs j.2.2))), (4, I (j.1 : Int))]) (fun j => [(26, [vi a.kind, vi a.req.kind, vi a.req.id, vi a.req.cabin, vi a.req.from', vi a.req.size, vi a.req.tier, vi a.n, .slice a_keep_a a.keep.length a_keep_c])]) (fun j => []) (fun j => j.1 + j.2.1.length = a.keep.length ∧ a.keep.drop j.1 = j.2.1 ∧ joinSp [102, 97, 108, 108] a.keep = joinSp j.2.2 j.2.1 ∧ j.2.2.length ≤ 4 + 22 * j.1) (fun j => j.2.1.length) (0, a.keep, [102, 97, 108, 108]) [1, 3, 4] ⟨by simp, rfl, rfl, by simp⟩ ?_ rfl rfl ?_)))
          · as_aux_lemma => kernel_rfl
          rintro ⟨k, ys, out⟩ ⟨hk, hd, hv0, hv1⟩
          dsimp only at hk hd hv0 hv1
          refine SEQ (SEQ (REGION [0, 1, 2, 3, 4] rfl (RUN0 5 [] [(1, .p 0 0), (3, .v (.string (bs out))), (4, I (k : Int)), (28, B (decide ((k : Int) < (a.keep.length : Int))))] ?_ rfl ?_)))
          · as_aux_lemma => kernel_rfl
          refine ENDOPS (NEXT (IF (decide ((k : Int) < (a.keep.length : Int))) ?_ (fun bh7 => ?_) (fun bh7 => ?_)))
          · as_aux_lemma => kernel_rfl
          · -- decide ((k : Int) < (a.keep.length : Int)) = true
            have h7 := bh7
            have h7 := of_decide_eq_true h7
            obtain ⟨y8, ys9, rfl, hx_y8, hd_y8, hl_y8⟩ := drop_cons hd hk (by omega)
            have hr_y8 : i64R y8 := hq.2.2.2.2 _ (List.mem_of_getElem? hx_y8)
            refine SKIP (NEXT (SEQ (BLOCK (REGION [0, 1, 2, 3, 4, 5, 6, 7, 8, 9] rfl (RUN0 1 [1, 2, 3, 4, 5, 6, 7, 8, 9] [(1, .p 0 0), (4, I (k : Int)), (31, .v (.string (bs out)))] ?_ rfl ?_)))))
            · as_aux_lemma => kernel_rfl
            refine OPC (RUNV (.binOp .add 9 (.tmp 31) (.const (.string (bs ([32])))) 9) 32 9 ?_ (Nat.le_of_ble_eq_true rfl) (.string (bs (out ++ ([32])))) (runs_scat (a := out) (b := [32]) ?_ ?_ (by first | omega | (simp only [List.length_append, List.length_cons, List.length_nil, List.length_take, List.length_drop] at *; omega))) ?_)
            · as_aux_lemma => kernel_rfl
            · as_aux_lemma => kernel_rfl
            · as_aux_lemma => kernel_rfl
            refine RUN0 3 [5, 6, 7, 8, 9] [(1, .p 0 0), (4, I (k : Int)), (32, .v (.string (bs (out ++ ([32]))))), (34, .v (.slice a_keep_a a.keep.length a_keep_c)), (35, I (k : Int))] ?_ rfl ?_
            · as_aux_lemma => kernel_rfl
            refine OPC (INDEX 24 (.tmp 34) (.tmp 35) 36 0 ?_ (Nat.le_of_ble_eq_true rfl) a_keep_a a.keep.length a_keep_c .i64 (k : Int) 3 1 ?_ ?_ ?_ ?_ (Rd.some ha_keep (by omega)) (by omega) (by omega) ?_)
            · as_aux_lemma => kernel_rfl
            · as_aux_lemma => kernel_rfl
            · as_aux_lemma => kernel_rfl
            · as_aux_lemma => kernel_rfl
            · as_aux_lemma => kernel_rfl
            refine OPC (LOADE 3 (.tmp 36) 37 3 ?_ (Nat.le_of_ble_eq_true rfl) a_keep_a (k * 1) 0 [vi y8] (vi y8) ?_ (fun w hw => (ha_keep.fr hw.fr).flat hx_y8) ?_ ?_)
            · as_aux_lemma => kernel_rfl
            · as_aux_lemma => kernel_rfl
            · as_aux_lemma => kernel_rfl
            refine OPC (CALL 27 #[vi y8] (some 38) ?_ [] [] _ rfl (RV (.string (bs (Lib.itoa y8)))) (fun w hw => sDigits_c w y8 (by first | assumption | exact wr_range _ | (unfold i64R at *; omega) | (simp only [i64R] at *; omega))) (by rintro _ ⟨⟩; exact Nat.le_of_ble_eq_true rfl) ?_)
            · as_aux_lemma => kernel_rfl
            rintro ⟨⟩
            have hr10 := itoa_len (n := y8) (by first | assumption | exact wr_range _ | (unfold i64R at *; omega) | (simp only [i64R] at *; omega))
            refine OPC (RUNV (.binOp .add 9 (.tmp 32) (.tmp 38) 9) 39 9 ?_ (Nat.le_of_ble_eq_true rfl) (.string (bs ((out ++ ([32])) ++ (Lib.itoa y8)))) (runs_scat (a := out ++ ([32])) (b := Lib.itoa y8) ?_ ?_ (by first | omega | (simp only [List.length_append, List.length_cons, List.length_nil, List.length_take, List.length_drop] at *; omega))) ?_)
            · as_aux_lemma => kernel_rfl
            · as_aux_lemma => kernel_rfl
            · as_aux_lemma => kernel_rfl
            refine RUN0 1 [] [(1, .p 0 0), (3, .v (.string (bs ((out ++ ([32])) ++ (Lib.itoa y8))))), (4, I (k : Int))] ?_ rfl ?_
            · as_aux_lemma => kernel_rfl
            refine ENDOPS (OUTN (NEXT (REGION [0, 1, 2] rfl (RUN0 2 [2] [(1, .p 0 0), (3, .v (.string (bs ((out ++ ([32])) ++ (Lib.itoa y8))))), (30, I (wr ((k : Int) + 1)))] ?_ rfl ?_))))
            · as_aux_lemma => kernel_rfl
            refine CAST (d := 30) (vi (wr ((k : Int) + 1))) (vi ((k + 1 : Nat) : Int)) ?_ (vi_cast (by omega) (by omega)) ?_
            · as_aux_lemma => kernel_rfl
            refine RUN0 1 [] [(1, .p 0 0), (3, .v (.string (bs ((out ++ ([32])) ++ (Lib.itoa y8))))), (4, I ((k + 1 : Nat) : Int))] ?_ rfl ?_
            · as_aux_lemma => kernel_rfl
            refine ENDOPS (BACK (k + 1, ys9, (out ++ ([32])) ++ (Lib.itoa y8)) [1, 3, 4] 1 [] _ ⟨hl_y8, hd_y8, hv0.trans (by simp [joinSp]), (by simp only [List.length_append, List.length_cons, List.length_nil]; omega)⟩ (by simp) ?_ rfl rfl rfl)
            · as_aux_lemma => kernel_rfl
          · -- decide ((k : Int) < (a.keep.length : Int)) = false
            have h7 := bh7
            have h7 := of_decide_eq_false h7
            obtain rfl := drop_nil hk (by omega)
            refine EXIT (PASS trivial (PASS trivial (OUT (NEXT (SEQ (REGION [0, 1] rfl (RUN0 2 [] [(2, .v (.string (bs out)))] ?_ rfl ?_)))))))
            · as_aux_lemma => kernel_rfl
            refine ENDOPS (NEXT (RET (FIN (.string (bs out)) ?_ () ?_ [] ?_)))
            · as_aux_lemma => kernel_rfl
            · (simp_all [RV, actLine, joinSp])
            · rfl

theorem iActLine_c (W : World) (a : Act) (a_keep_a : Option Addr) (a_keep_c : Nat) (ha_keep : Rd intL W a_keep_a a.keep) (htab : Tab Tryd.prog W) : Spec Tryd.prog W [] 18 #[.agg #[vi a.kind, vi a.req.kind, vi a.req.id, vi a.req.cabin, vi a.req.from', vi a.req.size, vi a.req.tier, vi a.n, .slice a_keep_a a.keep.length a_keep_c]] (RV (.string (bs (actLine a)))) := by
  refine ENTER0 (N := 39) (vs := [.agg #[vi a.kind, vi a.req.kind, vi a.req.id, vi a.req.cabin, vi a.req.from', vi a.req.size, vi a.req.tier, vi a.n, .slice a_keep_a a.keep.length a_keep_c]]) Tryd.func18 rfl rfl (Nat.le_of_ble_eq_true rfl) ?_
  have ha_keep_len := ha_keep.len
  refine SEQ (REGION [0, 1] rfl (RUN 2 [] [(1, .p 0 0)] [(26, [vi a.kind, vi a.req.kind, vi a.req.id, vi a.req.cabin, vi a.req.from', vi a.req.size, vi a.req.tier, vi a.n, .slice a_keep_a a.keep.length a_keep_c])] ?_ rfl ?_))
  · as_aux_lemma => kernel_rfl
  refine ENDOPS (NEXT (SEQ (SEQ (REGION [0, 1, 2] rfl (RUN0 1 [1, 2] [(1, .p 0 0), (6, .v (.agg #[vi a.kind, vi a.req.kind, vi a.req.id, vi a.req.cabin, vi a.req.from', vi a.req.size, vi a.req.tier, vi a.n, .slice a_keep_a a.keep.length a_keep_c]))] ?_ rfl ?_)))))
  · as_aux_lemma => kernel_rfl
  refine OPC (CALL 17 #[.agg #[vi a.kind, vi a.req.kind, vi a.req.id, vi a.req.cabin, vi a.req.from', vi a.req.size, vi a.req.tier, vi a.n, .slice a_keep_a a.keep.length a_keep_c]] (some 7) ?_ [] [] _ rfl (RV (.bool (actOk a))) (fun w hw => iActOk_c w a a_keep_a a_keep_c (ha_keep.fr hw.fr)) (by rintro _ ⟨⟩; exact Nat.le_of_ble_eq_true rfl) ?_)
  · as_aux_lemma => kernel_rfl
  rintro ⟨⟩
  refine RUN0 1 [] [(1, .p 0 0), (8, B (!(actOk a)))] ?_ rfl ?_
  · as_aux_lemma => kernel_rfl
  refine ENDOPS (NEXT (IF (!(actOk a)) ?_ (fun bh1 => ?_) (fun bh1 => ?_)))
  · as_aux_lemma => kernel_rfl
  · -- !(actOk a) = true
    have h1 := bh1
    have h1 := notT h1
    refine SEQ (REGION [0] rfl (RUN0 1 [] [(2, .v (.string (bs ([]))))] ?_ rfl ?_))
    · as_aux_lemma => kernel_rfl
    refine ENDOPS (NEXT (RET (PASS trivial (FIN (.string (bs ([]))) ?_ () ?_ [] ?_))))
    · as_aux_lemma => kernel_rfl
    · (simp_all [RV, actLine, joinSp])
    · rfl
  · -- !(actOk a) = false
    have h1 := bh1
    have h1 := notF h1
    have hq := actOk_rng h1
    refine SKIP (NEXT (SEQ (SEQ (REGION [0, 1] rfl (RUN0 2 [] [(1, .p 0 0), (10, I a.kind)] ?_ rfl ?_)))))
    · as_aux_lemma => kernel_rfl
    refine ENDOPS (NEXT (BLOCK (SEQ (REGION [0, 1] rfl (RUN0 2 [] [(1, .p 0 0), (10, I a.kind), (11, B (a.kind == 1))] ?_ rfl ?_)))))
    · as_aux_lemma => kernel_rfl
    refine ENDOPS (NEXT (IF (a.kind == 1) ?_ (fun bh2 => ?_) (fun bh2 => ?_)))
    · as_aux_lemma => kernel_rfl
    · -- a.kind == 1 = true
      have h2 := bh2
      have h2 := eq_of_beq h2
      refine SEQ (REGION [0, 1, 2, 3, 4] rfl (RUN0 2 [2, 3, 4] [(14, .v (.agg #[vi a.req.kind, vi a.req.id, vi a.req.cabin, vi a.req.from', vi a.req.size, vi a.req.tier]))] ?_ rfl ?_))
      · as_aux_lemma => kernel_rfl
      refine OPC (CALL 30 #[.agg #[vi a.req.kind, vi a.req.id, vi a.req.cabin, vi a.req.from', vi a.req.size, vi a.req.tier]] (some 15) ?_ [] [] _ rfl (RV (.string (bs (reqLine a.req)))) (fun w hw => iReqLine_c w a.req (htab.fr hw.fr)) (by rintro _ ⟨⟩; exact Nat.le_of_ble_eq_true rfl) ?_)
      · as_aux_lemma => kernel_rfl
      rintro ⟨⟩
      have hr3 := reqLine_len a.req
      refine OPC (RUNV (.binOp .add 9 (.const (.string (bs ([108, 97, 121, 32])))) (.tmp 15) 9) 16 9 ?_ (Nat.le_of_ble_eq_true rfl) (.string (bs (([108, 97, 121, 32]) ++ (reqLine a.req)))) (runs_scat (a := [108, 97, 121, 32]) (b := reqLine a.req) ?_ ?_ (by first | omega | (simp only [List.length_append, List.length_cons, List.length_nil, List.length_take, List.length_drop] at *; omega))) ?_)
      · as_aux_lemma => kernel_rfl
      · as_aux_lemma => kernel_rfl
      · as_aux_lemma => kernel_rfl
      refine RUN0 1 [] [(2, .v (.string (bs (([108, 97, 121, 32]) ++ (reqLine a.req)))))] ?_ rfl ?_
      · as_aux_lemma => kernel_rfl
      refine ENDOPS (NEXT (RET (OUTR (PASS trivial (FIN (.string (bs (([108, 97, 121, 32]) ++ (reqLine a.req)))) ?_ () ?_ [] ?_)))))
      · as_aux_lemma => kernel_rfl
      · (simp_all [RV, actLine, joinSp])
      · rfl
    · -- a.kind == 1 = false
      have h2 := bh2
      have h2 := ne_of_beq_false h2
      refine SEQ (REGION [0, 1] rfl (RUN0 2 [] [(1, .p 0 0), (10, I a.kind), (17, B (a.kind == 2))] ?_ rfl ?_))
      · as_aux_lemma => kernel_rfl
      refine ENDOPS (NEXT (IF (a.kind == 2) ?_ (fun bh4 => ?_) (fun bh4 => ?_)))
      · as_aux_lemma => kernel_rfl
      · -- a.kind == 2 = true
        have h4 := bh4
        have h4 := eq_of_beq h4
        refine SEQ (REGION [0] rfl (RUN0 1 [] [(2, .v (.string (bs ([115, 101, 97, 108]))))] ?_ rfl ?_))
        · as_aux_lemma => kernel_rfl
        refine ENDOPS (NEXT (RET (OUTR (PASS trivial (FIN (.string (bs ([115, 101, 97, 108]))) ?_ () ?_ [] ?_)))))
        · as_aux_lemma => kernel_rfl
        · (simp_all [RV, actLine, joinSp])
        · rfl
      · -- a.kind == 2 = false
        have h4 := bh4
        have h4 := ne_of_beq_false h4
        refine SEQ (REGION [0, 1] rfl (RUN0 2 [] [(1, .p 0 0), (19, B (a.kind == 3))] ?_ rfl ?_))
        · as_aux_lemma => kernel_rfl
        refine ENDOPS (NEXT (IF (a.kind == 3) ?_ (fun bh5 => ?_) (fun bh5 => ?_)))
        · as_aux_lemma => kernel_rfl
        · -- a.kind == 3 = true
          have h5 := bh5
          have h5 := eq_of_beq h5
          refine SEQ (REGION [0, 1, 2, 3, 4] rfl (RUN0 2 [2, 3, 4] [(22, I a.n)] ?_ rfl ?_))
          · as_aux_lemma => kernel_rfl
          refine OPC (CALL 31 #[vi a.n] (some 23) ?_ [] [] _ rfl (RV (.string (bs (Lib.itoa a.n)))) (fun w hw => iDigits_c w a.n (by first | assumption | exact wr_range _ | (unfold i64R at *; omega) | (simp only [i64R] at *; omega)) (htab.fr hw.fr)) (by rintro _ ⟨⟩; exact Nat.le_of_ble_eq_true rfl) ?_)
          · as_aux_lemma => kernel_rfl
          rintro ⟨⟩
          have hr6 := itoa_len (n := a.n) (by first | assumption | exact wr_range _ | (unfold i64R at *; omega) | (simp only [i64R] at *; omega))
          refine OPC (RUNV (.binOp .add 9 (.const (.string (bs ([109, 97, 114, 107, 32])))) (.tmp 23) 9) 24 9 ?_ (Nat.le_of_ble_eq_true rfl) (.string (bs (([109, 97, 114, 107, 32]) ++ (Lib.itoa a.n)))) (runs_scat (a := [109, 97, 114, 107, 32]) (b := Lib.itoa a.n) ?_ ?_ (by first | omega | (simp only [List.length_append, List.length_cons, List.length_nil, List.length_take, List.length_drop] at *; omega))) ?_)
          · as_aux_lemma => kernel_rfl
          · as_aux_lemma => kernel_rfl
          · as_aux_lemma => kernel_rfl
          refine RUN0 1 [] [(2, .v (.string (bs (([109, 97, 114, 107, 32]) ++ (Lib.itoa a.n)))))] ?_ rfl ?_
          · as_aux_lemma => kernel_rfl
          refine ENDOPS (NEXT (RET (OUTR (PASS trivial (FIN (.string (bs (([109, 97, 114, 107, 32]) ++ (Lib.itoa a.n)))) ?_ () ?_ [] ?_)))))
          · as_aux_lemma => kernel_rfl
          · (simp_all [RV, actLine, joinSp])
          · rfl
        · -- a.kind == 3 = false
          have h5 := bh5
          have h5 := ne_of_beq_false h5
          refine SKIP (OUTN (NEXT (SEQ (REGION [0] rfl (RUN0 1 [] [(1, .p 0 0), (3, .v (.string (bs ([102, 97, 108, 108]))))] ?_ rfl ?_)))))
          · as_aux_lemma => kernel_rfl
          refine ENDOPS (NEXT (SEQ (SEQ (REGION [0, 1, 2, 3] rfl (RUN0 4 [] [(3, .v (.string (bs ([102, 97, 108, 108])))), (26, .v (.slice a_keep_a a.keep.length a_keep_c)), (27, I (a.keep.length : Int)), (28, I 0)] ?_ rfl ?_)))))
          · as_aux_lemma => kernel_rfl
          refine ENDOPS (NEXT (BLOCK (LOOP (ι := Nat × (List Int) × (List UInt8)) (fun j => [(3, .v (.string (bs j.2.2))), (26, .v (.slice a_keep_a a.keep.length a_keep_c)), (27, I (a.keep.length : Int)), (28, I (j.1 : Int))]) (fun j => [(26, [vi a.kind, vi a.req.kind, vi a.req.id, vi a.req.cabin, vi a.req.from', vi a.req.size, vi a.req.tier, vi a.n, .slice a_keep_a a.keep.length a_keep_c])]) (fun j => []) (fun j => j.1 + j.2.1.length = a.keep.length ∧ a.keep.drop j.1 = j.2.1 ∧ joinSp [102, 97, 108, 108] a.keep = joinSp j.2.2 j.2.1 ∧ j.2.2.length ≤ 4 + 22 * j.1) (fun j => j.2.1.length) (0, a.keep, [102, 97, 108, 108]) [3, 26, 27, 28] ⟨by simp, rfl, rfl, by simp⟩ ?_ rfl rfl ?_)))
          · as_aux_lemma => kernel_rfl
          rintro ⟨k, ys, out⟩ ⟨hk, hd, hv0, hv1⟩
          dsimp only at hk hd hv0 hv1
          refine SEQ (REGION [0] rfl (RUN0 1 [] [(3, .v (.string (bs out))), (26, .v (.slice a_keep_a a.keep.length a_keep_c)), (27, I (a.keep.length : Int)), (28, I (k : Int)), (29, B (decide ((k : Int) < (a.keep.length : Int))))] ?_ rfl ?_))
          · as_aux_lemma => kernel_rfl
          refine ENDOPS (NEXT (SEQ (IF (decide ((k : Int) < (a.keep.length : Int))) ?_ (fun bh7 => ?_) (fun bh7 => ?_))))
          · as_aux_lemma => kernel_rfl
          · -- decide ((k : Int) < (a.keep.length : Int)) = true
            have h7 := bh7
            have h7 := of_decide_eq_true h7
            obtain ⟨y8, ys9, rfl, hx_y8, hd_y8, hl_y8⟩ := drop_cons hd hk (by omega)
            have hr_y8 : i64R y8 := hq.2.2.2.2 _ (List.mem_of_getElem? hx_y8)
            refine SKIP (NEXT (SEQ (BLOCK (SEQ (REGION [0, 1, 2] rfl (OPC (INDEX 24 (.tmp 26) (.tmp 28) 30 0 ?_ (Nat.le_of_ble_eq_true rfl) a_keep_a a.keep.length a_keep_c .i64 (k : Int) 3 1 ?_ ?_ ?_ ?_ (Rd.some ha_keep (by omega)) (by omega) (by omega) ?_)))))))
            · as_aux_lemma => kernel_rfl
            · as_aux_lemma => kernel_rfl
            · as_aux_lemma => kernel_rfl
            · as_aux_lemma => kernel_rfl
            · as_aux_lemma => kernel_rfl
            refine OPC (LOADE 3 (.tmp 30) 31 3 ?_ (Nat.le_of_ble_eq_true rfl) a_keep_a (k * 1) 0 [vi y8] (vi y8) ?_ (fun w hw => (ha_keep.fr hw.fr).flat hx_y8) ?_ ?_)
            · as_aux_lemma => kernel_rfl
            · as_aux_lemma => kernel_rfl
            · as_aux_lemma => kernel_rfl
            refine RUN0 1 [] [(3, .v (.string (bs out))), (5, I y8), (26, .v (.slice a_keep_a a.keep.length a_keep_c)), (27, I (a.keep.length : Int)), (28, I (k : Int))] ?_ rfl ?_
            · as_aux_lemma => kernel_rfl
            refine ENDOPS (NEXT (REGION [0, 1, 2, 3, 4, 5] rfl (RUN0 2 [2, 3, 4, 5] [(26, .v (.slice a_keep_a a.keep.length a_keep_c)), (27, I (a.keep.length : Int)), (28, I (k : Int)), (32, .v (.string (bs out))), (33, I y8)] ?_ rfl ?_)))
            · as_aux_lemma => kernel_rfl
            refine OPC (CALL 31 #[vi y8] (some 34) ?_ [] [] _ rfl (RV (.string (bs (Lib.itoa y8)))) (fun w hw => iDigits_c w y8 (by first | assumption | exact wr_range _ | (unfold i64R at *; omega) | (simp only [i64R] at *; omega)) (htab.fr hw.fr)) (by rintro _ ⟨⟩; exact Nat.le_of_ble_eq_true rfl) ?_)
            · as_aux_lemma => kernel_rfl
            rintro ⟨⟩
            have hr10 := itoa_len (n := y8) (by first | assumption | exact wr_range _ | (unfold i64R at *; omega) | (simp only [i64R] at *; omega))
            refine OPC (RUNV (.binOp .add 9 (.const (.string (bs ([32])))) (.tmp 34) 9) 35 9 ?_ (Nat.le_of_ble_eq_true rfl) (.string (bs (([32]) ++ (Lib.itoa y8)))) (runs_scat (a := [32]) (b := Lib.itoa y8) ?_ ?_ (by first | omega | (simp only [List.length_append, List.length_cons, List.length_nil, List.length_take, List.length_drop] at *; omega))) ?_)
            · as_aux_lemma => kernel_rfl
            · as_aux_lemma => kernel_rfl
            · as_aux_lemma => kernel_rfl
            refine OPC (RUNV (.binOp .add 9 (.tmp 32) (.tmp 35) 9) 36 9 ?_ (Nat.le_of_ble_eq_true rfl) (.string (bs (out ++ (([32]) ++ (Lib.itoa y8))))) (runs_scat (a := out) (b := ([32]) ++ (Lib.itoa y8)) ?_ ?_ (by first | omega | (simp only [List.length_append, List.length_cons, List.length_nil, List.length_take, List.length_drop] at *; omega))) ?_)
            · as_aux_lemma => kernel_rfl
            · as_aux_lemma => kernel_rfl
            · as_aux_lemma => kernel_rfl
            refine RUN0 1 [] [(3, .v (.string (bs (out ++ (([32]) ++ (Lib.itoa y8)))))), (26, .v (.slice a_keep_a a.keep.length a_keep_c)), (27, I (a.keep.length : Int)), (28, I (k : Int))] ?_ rfl ?_
            · as_aux_lemma => kernel_rfl
            refine ENDOPS (OUTN (NEXT (REGION [0, 1] rfl (RUN0 1 [1] [(3, .v (.string (bs (out ++ (([32]) ++ (Lib.itoa y8)))))), (26, .v (.slice a_keep_a a.keep.length a_keep_c)), (27, I (a.keep.length : Int)), (37, I (wr ((k : Int) + 1)))] ?_ rfl ?_))))
            · as_aux_lemma => kernel_rfl
            refine CAST (d := 37) (vi (wr ((k : Int) + 1))) (vi ((k + 1 : Nat) : Int)) ?_ (vi_cast (by omega) (by omega)) ?_
            · as_aux_lemma => kernel_rfl
            refine RUN0 1 [] [(3, .v (.string (bs (out ++ (([32]) ++ (Lib.itoa y8)))))), (26, .v (.slice a_keep_a a.keep.length a_keep_c)), (27, I (a.keep.length : Int)), (28, I ((k + 1 : Nat) : Int))] ?_ rfl ?_
            · as_aux_lemma => kernel_rfl
            refine ENDOPS (BACK (k + 1, ys9, out ++ (([32]) ++ (Lib.itoa y8))) [3, 26, 27, 28] 1 [] _ ⟨hl_y8, hd_y8, hv0.trans (by simp [joinSp]), (by simp only [List.length_append, List.length_cons, List.length_nil]; omega)⟩ (by simp) ?_ rfl rfl rfl)
            · as_aux_lemma => kernel_rfl
          · -- decide ((k : Int) < (a.keep.length : Int)) = false
            have h7 := bh7
            have h7 := of_decide_eq_false h7
            obtain rfl := drop_nil hk (by omega)
            refine EXIT (PASS trivial (PASS trivial (OUT (NEXT (SEQ (REGION [0, 1] rfl (RUN0 2 [] [(2, .v (.string (bs out)))] ?_ rfl ?_)))))))
            · as_aux_lemma => kernel_rfl
            refine ENDOPS (NEXT (RET (FIN (.string (bs out)) ?_ () ?_ [] ?_)))
            · as_aux_lemma => kernel_rfl
            · (simp_all [RV, actLine, joinSp])
            · rfl

theorem cut_c (W : World) (s : List UInt8) (sep : List UInt8) (hl : s.length ≤ 1048576) (hmx : MaxL Tryd.prog W) : Spec Tryd.prog W [] 13 #[.string (bs s), .string (bs sep)] (RV (.tuple #[.string (bs ((Lib.cut s sep).1)), .string (bs ((Lib.cut s sep).2.1)), .bool ((Lib.cut s sep).2.2)])) := Spec.drewn (by obtain ⟨m, hm⟩ := hmx; exact Tryd.strings_Cut (bs s) (bs sep) m W (by rw [bs_size]; omega) hm)

theorem markIntS_c (W : World) (a : List Int) (a_a : Option Addr) (a_n a_c : Nat) (z : Int) : Spec Tryd.prog W [slA 3 intL (.slice a_a a_n a_c) a] 21 #[.slice a_a a_n a_c, vi z] (⟨Unit, fun _ => vi ((markInts a z).2), fun _ => [slA 3 intL (.slice a_a a_n a_c) ((markInts a z).1)]⟩) := by
  refine ENTER (N := 19) (vs := [.slice a_a a_n a_c, vi z]) Tryd.func21 rfl rfl (Nat.le_of_ble_eq_true rfl) (fun S0 => ?_)
  refine FACT (a_n = a.length ∧ a.length ≤ 9223372036854775807) (fun w hw => SlO.lenE (hw.own 0 rfl)) (fun ha_len => ?_)
  refine SEQ (REGION [0] rfl (RUN0 1 [] [(0, .v (.slice a_a a_n a_c)), (1, I z)] ?_ rfl ?_))
  · as_aux_lemma => kernel_rfl
  refine ENDOPS (NEXT (SEQ (SEQ (REGION [0] rfl (RUN0 1 [] [(0, .v (.slice a_a a_n a_c)), (1, I z), (5, I 0)] ?_ rfl ?_)))))
  · as_aux_lemma => kernel_rfl
  refine ENDOPS (NEXT (BLOCK (LOOP (ι := Nat × (List Int) × (List Int) × (List Int) × Int) (fun j => [(0, .v (.slice a_a a_n a_c)), (1, I j.2.2.2.2), (5, I (j.1 : Int))]) (fun j => []) (fun j => [slA 3 intL (.slice a_a a_n a_c) j.2.2.2.1]) (fun j => j.1 + j.2.1.length = a.length ∧ a.drop j.1 = j.2.1 ∧ j.2.2.2.1 = j.2.2.1 ++ j.2.1 ∧ j.2.2.1.length = j.1 ∧ ((markInts a z).1 = j.2.2.1 ++ (markInts j.2.1 j.2.2.2.2).1 ∧ (markInts a z).2 = (markInts j.2.1 j.2.2.2.2).2)) (fun j => j.2.1.length) (0, a, [], a, z) [0, 1, 5] ⟨by simp, rfl, rfl, rfl, rfl, rfl⟩ ?_ rfl rfl ?_)))
  · as_aux_lemma => kernel_rfl
  rintro ⟨k, ys, done, out, kk⟩ ⟨hk, hd, hv0, hv1, hv2⟩
  dsimp only at hk hd hv0 hv1 hv2
  refine SEQ (SEQ (REGION [0, 1, 2, 3] rfl (RUN0 4 [] [(0, .v (.slice a_a a_n a_c)), (1, I kk), (5, I (k : Int)), (9, B (decide ((k : Int) < (a_n : Int))))] ?_ rfl ?_)))
  · as_aux_lemma => kernel_rfl
  refine ENDOPS (NEXT (IF (decide ((k : Int) < (a_n : Int))) ?_ (fun bh1 => ?_) (fun bh1 => ?_)))
  · as_aux_lemma => kernel_rfl
  · -- decide ((k : Int) < (a_n : Int)) = true
    have h1 := bh1
    have h1 := of_decide_eq_true h1
    obtain ⟨y2, ys3, rfl, hx_y2, hd_y2, hl_y2⟩ := drop_cons hd hk (by omega)
    refine SKIP (NEXT (SEQ (BLOCK (SEQ (REGION [0, 1, 2, 3, 4] rfl (RUN0 3 [3, 4] [(0, .v (.slice a_a a_n a_c)), (1, I kk), (5, I (k : Int)), (12, .v (.slice a_a a_n a_c)), (13, I (k : Int)), (14, I kk)] ?_ rfl ?_))))))
    · as_aux_lemma => kernel_rfl
    refine FACT (a_n = out.length) (fun w hw => (SlO.lenE (hw.own 0 rfl)).1) (fun hln4 => ?_)
    obtain ⟨x5, hx6⟩ : ∃ y, out[k]? = some y := ⟨_, List.getElem?_eq_getElem (by omega)⟩
    refine FACT (a_a.isSome = true) (fun w hw => SlO.isS (hw.own 0 rfl) (by omega)) (fun hs7 => ?_)
    refine OPC (INDEX 24 (.tmp 12) (.tmp 13) 15 0 ?_ (Nat.le_of_ble_eq_true rfl) a_a a_n a_c .i64 (k : Int) 3 1 ?_ ?_ ?_ ?_ hs7 (by omega) (by omega) ?_)
    · as_aux_lemma => kernel_rfl
    · as_aux_lemma => kernel_rfl
    · as_aux_lemma => kernel_rfl
    · as_aux_lemma => kernel_rfl
    · as_aux_lemma => kernel_rfl
    refine OPC (STOREF 3 (.tmp 15) (.tmp 14) 0 ?_ 0 _ 3 a_a a_n a_c k 0 out rfl x5 kk hx6 (vi kk) ?_ ?_ ?_ ?_)
    · as_aux_lemma => kernel_rfl
    · as_aux_lemma => kernel_rfl
    · as_aux_lemma => kernel_rfl
    · as_aux_lemma => kernel_rfl
    refine ENDOPS (NEXT (REGION [0, 1, 2] rfl (RUN0 3 [] [(0, .v (.slice a_a a_n a_c)), (1, I (wr (kk + 1))), (5, I (k : Int))] ?_ rfl ?_)))
    · as_aux_lemma => kernel_rfl
    refine ENDOPS (OUTN (NEXT (REGION [0, 1, 2] rfl (RUN0 2 [2] [(0, .v (.slice a_a a_n a_c)), (1, I (wr (kk + 1))), (11, I (wr ((k : Int) + 1)))] ?_ rfl ?_))))
    · as_aux_lemma => kernel_rfl
    refine CAST (d := 11) (vi (wr ((k : Int) + 1))) (vi ((k + 1 : Nat) : Int)) ?_ (vi_cast (by omega) (by omega)) ?_
    · as_aux_lemma => kernel_rfl
    refine RUN0 1 [] [(0, .v (.slice a_a a_n a_c)), (1, I (wr (kk + 1))), (5, I ((k + 1 : Nat) : Int))] ?_ rfl ?_
    · as_aux_lemma => kernel_rfl
    refine ENDOPS (BACK (k + 1, ys3, done ++ [kk], out.set k kk, wr (kk + 1)) [0, 1, 5] 0 [0] _ ⟨hl_y2, hd_y2, (by rw [hv0]; exact set_mid hv1), (by simp only [List.length_append, List.length_cons, List.length_nil]; omega), ⟨hv2.1.trans (by simp [markInts]), hv2.2.trans (by simp [markInts])⟩⟩ (by simp) ?_ rfl rfl rfl)
    · as_aux_lemma => kernel_rfl
  · -- decide ((k : Int) < (a_n : Int)) = false
    have h1 := bh1
    have h1 := of_decide_eq_false h1
    obtain rfl := drop_nil hk (by omega)
    refine EXIT (PASS trivial (PASS trivial (OUT (NEXT (SEQ (REGION [0, 1] rfl (RUN0 2 [] [(4, I kk)] ?_ rfl ?_)))))))
    · as_aux_lemma => kernel_rfl
    refine ENDOPS (NEXT (RET (FIN (vi kk) ?_ () ?_ [0] ?_)))
    · as_aux_lemma => kernel_rfl
    · (show vi kk = vi (markInts a z).2; rw [hv2.2]; rfl)
    · (rw [show (markInts a z).1 = out by rw [hv2.1, hv0]; rfl]; rfl)

theorem heldIntS_c (W : World) (a : List Int) (a_a : Option Addr) (a_c : Nat) (ha : Rd intL W a_a a) (z : Int) : Spec Tryd.prog W [] 22 #[.slice a_a a.length a_c, vi z] (RV (vi (heldInts a z))) := by
  refine ENTER0 (N := 21) (vs := [.slice a_a a.length a_c, vi z]) Tryd.func22 rfl rfl (Nat.le_of_ble_eq_true rfl) ?_
  have ha_len := ha.len
  refine SEQ (REGION [0] rfl (RUN0 1 [] [(0, .v (.slice a_a a.length a_c)), (1, I z)] ?_ rfl ?_))
  · as_aux_lemma => kernel_rfl
  refine ENDOPS (NEXT (SEQ (SEQ (REGION [0] rfl (RUN0 1 [] [(0, .v (.slice a_a a.length a_c)), (1, I z), (5, I 0)] ?_ rfl ?_)))))
  · as_aux_lemma => kernel_rfl
  refine ENDOPS (NEXT (BLOCK (LOOP (ι := Nat × (List Int) × Int) (fun j => [(0, .v (.slice a_a a.length a_c)), (1, I j.2.2), (5, I (j.1 : Int))]) (fun j => []) (fun j => []) (fun j => j.1 + j.2.1.length = a.length ∧ a.drop j.1 = j.2.1 ∧ heldInts a z = heldInts j.2.1 j.2.2) (fun j => j.2.1.length) (0, a, z) [0, 1, 5] ⟨by simp, rfl, rfl⟩ ?_ rfl rfl ?_)))
  · as_aux_lemma => kernel_rfl
  rintro ⟨k, ys, kk⟩ ⟨hk, hd, hv0⟩
  dsimp only at hk hd hv0
  refine SEQ (SEQ (REGION [0, 1, 2, 3] rfl (RUN0 4 [] [(0, .v (.slice a_a a.length a_c)), (1, I kk), (5, I (k : Int)), (9, B (decide ((k : Int) < (a.length : Int))))] ?_ rfl ?_)))
  · as_aux_lemma => kernel_rfl
  refine ENDOPS (NEXT (IF (decide ((k : Int) < (a.length : Int))) ?_ (fun bh1 => ?_) (fun bh1 => ?_)))
  · as_aux_lemma => kernel_rfl
  · -- decide ((k : Int) < (a.length : Int)) = true
    have h1 := bh1
    have h1 := of_decide_eq_true h1
    obtain ⟨y2, ys3, rfl, hx_y2, hd_y2, hl_y2⟩ := drop_cons hd hk (by omega)
    refine SKIP (NEXT (SEQ (BLOCK (SEQ (SEQ (REGION [0, 1, 2, 3, 4, 5] rfl (RUN0 2 [2, 3, 4, 5] [(0, .v (.slice a_a a.length a_c)), (1, I kk), (5, I (k : Int)), (12, .v (.slice a_a a.length a_c)), (13, I (k : Int))] ?_ rfl ?_)))))))
    · as_aux_lemma => kernel_rfl
    refine OPC (INDEX 24 (.tmp 12) (.tmp 13) 14 0 ?_ (Nat.le_of_ble_eq_true rfl) a_a a.length a_c .i64 (k : Int) 3 1 ?_ ?_ ?_ ?_ (Rd.some ha (by omega)) (by omega) (by omega) ?_)
    · as_aux_lemma => kernel_rfl
    · as_aux_lemma => kernel_rfl
    · as_aux_lemma => kernel_rfl
    · as_aux_lemma => kernel_rfl
    · as_aux_lemma => kernel_rfl
    refine OPC (LOADE 3 (.tmp 14) 15 3 ?_ (Nat.le_of_ble_eq_true rfl) a_a (k * 1) 0 [vi y2] (vi y2) ?_ (fun w hw => (ha.fr hw.fr).flat hx_y2) ?_ ?_)
    · as_aux_lemma => kernel_rfl
    · as_aux_lemma => kernel_rfl
    · as_aux_lemma => kernel_rfl
    refine RUN0 2 [] [(0, .v (.slice a_a a.length a_c)), (1, I kk), (5, I (k : Int)), (17, B (y2 != kk))] ?_ rfl ?_
    · as_aux_lemma => kernel_rfl
    refine ENDOPS (NEXT (IF (y2 != kk) ?_ (fun bh4 => ?_) (fun bh4 => ?_)))
    · as_aux_lemma => kernel_rfl
    · -- y2 != kk = true
      have h4 := bh4
      have h4 := bne_iff_ne.1 h4
      refine SEQ (REGION [0] rfl (RUN0 1 [] [(4, I (-1))] ?_ rfl ?_))
      · as_aux_lemma => kernel_rfl
      refine ENDOPS (NEXT (RET (PASS trivial (OUTR (PASS trivial (PASS trivial (OUTR (PASS trivial (FIN (vi (-1)) ?_ () ?_ [] ?_)))))))))
      · as_aux_lemma => kernel_rfl
      · (simp only [RV]; rw [hv0]; simp [heldInts, *])
      · rfl
    · -- y2 != kk = false
      have h4 := bh4
      have h4 := bneF h4
      refine SKIP (NEXT (REGION [0, 1, 2] rfl (RUN0 3 [] [(0, .v (.slice a_a a.length a_c)), (1, I (wr (kk + 1))), (5, I (k : Int))] ?_ rfl ?_)))
      · as_aux_lemma => kernel_rfl
      refine ENDOPS (OUTN (NEXT (REGION [0, 1, 2] rfl (RUN0 2 [2] [(0, .v (.slice a_a a.length a_c)), (1, I (wr (kk + 1))), (11, I (wr ((k : Int) + 1)))] ?_ rfl ?_))))
      · as_aux_lemma => kernel_rfl
      refine CAST (d := 11) (vi (wr ((k : Int) + 1))) (vi ((k + 1 : Nat) : Int)) ?_ (vi_cast (by omega) (by omega)) ?_
      · as_aux_lemma => kernel_rfl
      refine RUN0 1 [] [(0, .v (.slice a_a a.length a_c)), (1, I (wr (kk + 1))), (5, I ((k + 1 : Nat) : Int))] ?_ rfl ?_
      · as_aux_lemma => kernel_rfl
      refine ENDOPS (BACK (k + 1, ys3, wr (kk + 1)) [0, 1, 5] 0 [] _ ⟨hl_y2, hd_y2, hv0.trans (by simp [heldInts, *])⟩ (by simp) ?_ rfl rfl rfl)
      · as_aux_lemma => kernel_rfl
  · -- decide ((k : Int) < (a.length : Int)) = false
    have h1 := bh1
    have h1 := of_decide_eq_false h1
    obtain rfl := drop_nil hk (by omega)
    refine EXIT (PASS trivial (PASS trivial (OUT (NEXT (SEQ (REGION [0, 1] rfl (RUN0 2 [] [(4, I kk)] ?_ rfl ?_)))))))
    · as_aux_lemma => kernel_rfl
    refine ENDOPS (NEXT (RET (FIN (vi kk) ?_ () ?_ [] ?_)))
    · as_aux_lemma => kernel_rfl
    · (simp only [RV]; rw [hv0]; simp [heldInts, *])
    · rfl

theorem markAct_c (W : World) (a : Act) (a_keep_a : Option Addr) (a_keep_n a_keep_c : Nat) (z : Int) : Spec Tryd.prog W [slA 3 intL (.slice a_keep_a a_keep_n a_keep_c) a.keep] 7 #[.agg #[vi a.kind, vi a.req.kind, vi a.req.id, vi a.req.cabin, vi a.req.from', vi a.req.size, vi a.req.tier, vi a.n, .slice a_keep_a a_keep_n a_keep_c], vi z] (⟨Unit, fun _ => vi ((markInts (a).keep z).2), fun _ => [slA 3 intL (.slice a_keep_a a_keep_n a_keep_c) ((markInts (a).keep z).1)]⟩) := by
  refine ENTER (N := 10) (vs := [.agg #[vi a.kind, vi a.req.kind, vi a.req.id, vi a.req.cabin, vi a.req.from', vi a.req.size, vi a.req.tier, vi a.n, .slice a_keep_a a_keep_n a_keep_c], vi z]) Tryd.func7 rfl rfl (Nat.le_of_ble_eq_true rfl) (fun S0 => ?_)
  refine FACT (a_keep_n = a.keep.length ∧ a.keep.length ≤ 9223372036854775807) (fun w hw => SlO.lenE (hw.own 0 rfl)) (fun ha_keep_len => ?_)
  refine SEQ (REGION [0, 1] rfl (RUN 2 [] [(1, I z), (2, .p 0 0)] [(26, [vi a.kind, vi a.req.kind, vi a.req.id, vi a.req.cabin, vi a.req.from', vi a.req.size, vi a.req.tier, vi a.n, .slice a_keep_a a_keep_n a_keep_c])] ?_ rfl ?_))
  · as_aux_lemma => kernel_rfl
  refine ENDOPS (NEXT (SEQ (REGION [0, 1, 2, 3, 4] rfl (RUN0 3 [3, 4] [(6, .v (.slice a_keep_a a_keep_n a_keep_c)), (7, I z)] ?_ rfl ?_))))
  · as_aux_lemma => kernel_rfl
  refine FACT (a_keep_n = a.keep.length) (fun w hw => (SlO.lenE (hw.own 0 rfl)).1) (fun hln1 => ?_)
  refine OPC (CALL 21 #[.slice a_keep_a a_keep_n a_keep_c, vi z] (some 8) ?_ [0] [slA 3 intL (.slice a_keep_a a_keep_n a_keep_c) a.keep] _ rfl (⟨Unit, fun _ => vi ((markInts a.keep z).2), fun _ => [slA 3 intL (.slice a_keep_a a_keep_n a_keep_c) ((markInts a.keep z).1)]⟩) (fun w hw => markIntS_c w a.keep a_keep_a a_keep_n a_keep_c z) (by rintro _ ⟨⟩; exact Nat.le_of_ble_eq_true rfl) ?_)
  · as_aux_lemma => kernel_rfl
  rintro ⟨⟩
  refine RUN0 1 [] [(1, I ((markInts a.keep z).2))] ?_ rfl ?_
  · as_aux_lemma => kernel_rfl
  refine ENDOPS (NEXT (SEQ (REGION [0, 1] rfl (RUN0 2 [] [(4, I ((markInts a.keep z).2))] ?_ rfl ?_))))
  · as_aux_lemma => kernel_rfl
  refine ENDOPS (NEXT (RET (FIN (vi ((markInts a.keep z).2)) ?_ () ?_ [0] ?_)))
  · as_aux_lemma => kernel_rfl
  · rfl
  · rfl

theorem heldAct_c (W : World) (a : Act) (a_keep_a : Option Addr) (a_keep_c : Nat) (ha_keep : Rd intL W a_keep_a a.keep) (z : Int) : Spec Tryd.prog W [] 8 #[.agg #[vi a.kind, vi a.req.kind, vi a.req.id, vi a.req.cabin, vi a.req.from', vi a.req.size, vi a.req.tier, vi a.n, .slice a_keep_a a.keep.length a_keep_c], vi z] (RV (vi (heldAct a z))) := by
  refine ENTER0 (N := 12) (vs := [.agg #[vi a.kind, vi a.req.kind, vi a.req.id, vi a.req.cabin, vi a.req.from', vi a.req.size, vi a.req.tier, vi a.n, .slice a_keep_a a.keep.length a_keep_c], vi z]) Tryd.func8 rfl rfl (Nat.le_of_ble_eq_true rfl) ?_
  have ha_keep_len := ha_keep.len
  refine SEQ (REGION [0, 1] rfl (RUN 2 [] [(1, I z), (2, .p 0 0)] [(26, [vi a.kind, vi a.req.kind, vi a.req.id, vi a.req.cabin, vi a.req.from', vi a.req.size, vi a.req.tier, vi a.n, .slice a_keep_a a.keep.length a_keep_c])] ?_ rfl ?_))
  · as_aux_lemma => kernel_rfl
  refine ENDOPS (NEXT (SEQ (REGION [0, 1, 2, 3, 4] rfl (RUN0 3 [3, 4] [(6, .v (.slice a_keep_a a.keep.length a_keep_c)), (7, I z)] ?_ rfl ?_))))
  · as_aux_lemma => kernel_rfl
  refine OPC (CALL 22 #[.slice a_keep_a a.keep.length a_keep_c, vi z] (some 8) ?_ [] [] _ rfl (RV (vi (heldInts a.keep z))) (fun w hw => heldIntS_c w a.keep a_keep_a a_keep_c (ha_keep.fr hw.fr) z) (by rintro _ ⟨⟩; exact Nat.le_of_ble_eq_true rfl) ?_)
  · as_aux_lemma => kernel_rfl
  rintro ⟨⟩
  refine RUN0 1 [] [(1, I (heldInts a.keep z))] ?_ rfl ?_
  · as_aux_lemma => kernel_rfl
  refine ENDOPS (NEXT (SEQ (SEQ (REGION [0, 1] rfl (RUN0 2 [] [(1, I (heldInts a.keep z)), (10, B (decide ((heldInts a.keep z) < 0)))] ?_ rfl ?_)))))
  · as_aux_lemma => kernel_rfl
  refine ENDOPS (NEXT (IF (decide ((heldInts a.keep z) < 0)) ?_ (fun bh1 => ?_) (fun bh1 => ?_)))
  · as_aux_lemma => kernel_rfl
  · -- decide ((heldInts a.keep z) < 0) = true
    have h1 := bh1
    have h1 := of_decide_eq_true h1
    refine SEQ (REGION [0] rfl (RUN0 1 [] [(4, I (-1))] ?_ rfl ?_))
    · as_aux_lemma => kernel_rfl
    refine ENDOPS (NEXT (RET (PASS trivial (FIN (vi (-1)) ?_ () ?_ [] ?_))))
    · as_aux_lemma => kernel_rfl
    · simp [RV, heldAct, *]
    · rfl
  · -- decide ((heldInts a.keep z) < 0) = false
    have h1 := bh1
    have h1 := of_decide_eq_false h1
    refine SKIP (NEXT (SEQ (REGION [0, 1] rfl (RUN0 2 [] [(4, I (heldInts a.keep z))] ?_ rfl ?_))))
    · as_aux_lemma => kernel_rfl
    refine ENDOPS (NEXT (RET (FIN (vi (heldInts a.keep z)) ?_ () ?_ [] ?_)))
    · as_aux_lemma => kernel_rfl
    · simp [RV, heldAct, *]
    · rfl

end SX
end Go.Proofs.YtpdijcbgdalphabDoor
