/- Walks, printed by program. -/
import Derived.Test.YtcjaeedkhlnegaaW4
namespace Go.Proofs.Ytcjaeedkhlnegaa
namespace SX
open Go Go.RowKit
set_option linter.unusedVariables false
set_option linter.unusedSimpArgs false
set_option maxRecDepth 10000
theorem szAct_c (W : World) (a : Act) (a_keep_a : Option Addr) (a_keep_c : Nat) (ha_keep : Rd intL W a_keep_a a.keep) (left : Int) : Spec Try.prog W [] 17 #[.agg #[vi a.kind, vi a.req.kind, vi a.req.id, vi a.req.cabin, vi a.req.from', vi a.req.size, vi a.req.tier, vi a.n, .slice a_keep_a a.keep.length a_keep_c], vi left] (RV (vi (szAct a left))) := by
  refine ENTER0 (N := 12) (vs := [.agg #[vi a.kind, vi a.req.kind, vi a.req.id, vi a.req.cabin, vi a.req.from', vi a.req.size, vi a.req.tier, vi a.n, .slice a_keep_a a.keep.length a_keep_c], vi left]) Try.func17 rfl rfl (Nat.le_of_ble_eq_true rfl) ?_
  have ha_keep_len := ha_keep.len
  refine SEQ (REGION [0, 1] rfl (RUN 2 [] [(1, I left), (2, .p 0 0)] [(38, [vi a.kind, vi a.req.kind, vi a.req.id, vi a.req.cabin, vi a.req.from', vi a.req.size, vi a.req.tier, vi a.n, .slice a_keep_a a.keep.length a_keep_c])] ?_ rfl ?_))
  · as_aux_lemma => kernel_rfl
  refine ENDOPS (NEXT (SEQ (REGION [0, 1, 2, 3, 4] rfl (RUN0 3 [3, 4] [(6, .v (.slice a_keep_a a.keep.length a_keep_c)), (7, I left)] ?_ rfl ?_))))
  · as_aux_lemma => kernel_rfl
  refine OPC (CALL 27 #[.slice a_keep_a a.keep.length a_keep_c, vi left] (some 8) ?_ [] [] _ rfl (RV (vi (szInts a.keep left))) (fun w hw => szIntS_c w a.keep a_keep_a a_keep_c (ha_keep.fr hw.fr) left) (by rintro _ ⟨⟩; exact Nat.le_of_ble_eq_true rfl) ?_)
  · as_aux_lemma => kernel_rfl
  rintro ⟨⟩
  refine RUN0 1 [] [(1, I (szInts a.keep left))] ?_ rfl ?_
  · as_aux_lemma => kernel_rfl
  refine ENDOPS (NEXT (SEQ (SEQ (REGION [0, 1] rfl (RUN0 2 [] [(1, I (szInts a.keep left)), (10, B (decide ((szInts a.keep left) < 0)))] ?_ rfl ?_)))))
  · as_aux_lemma => kernel_rfl
  refine ENDOPS (NEXT (IF (decide ((szInts a.keep left) < 0)) ?_ (fun bh1 => ?_) (fun bh1 => ?_)))
  · as_aux_lemma => kernel_rfl
  · -- decide ((szInts a.keep left) < 0) = true
    have h1 := bh1
    have h1 := of_decide_eq_true h1
    refine SEQ (REGION [0] rfl (RUN0 1 [] [(4, I (-1))] ?_ rfl ?_))
    · as_aux_lemma => kernel_rfl
    refine ENDOPS (NEXT (RET (PASS trivial (FIN (vi (-1)) ?_ () ?_ [] ?_))))
    · as_aux_lemma => kernel_rfl
    · simp [RV, szAct, *]
    · rfl
  · -- decide ((szInts a.keep left) < 0) = false
    have h1 := bh1
    have h1 := of_decide_eq_false h1
    refine SKIP (NEXT (SEQ (REGION [0, 1] rfl (RUN0 2 [] [(4, I (szInts a.keep left))] ?_ rfl ?_))))
    · as_aux_lemma => kernel_rfl
    refine ENDOPS (NEXT (RET (FIN (vi (szInts a.keep left)) ?_ () ?_ [] ?_)))
    · as_aux_lemma => kernel_rfl
    · simp [RV, szAct, *]
    · rfl

theorem toAct_c (W : World) (a : Act) (a_keep_a : Option Addr) (a_keep_c : Nat) (ha_keep : Rd intL W a_keep_a a.keep) (hb : a.keep.length ≤ 1048576) : Spec Try.prog W [] 19 #[.agg #[vi a.kind, vi a.req.kind, vi a.req.id, vi a.req.cabin, vi a.req.from', vi a.req.size, vi a.req.tier, vi a.n, .slice a_keep_a a.keep.length a_keep_c]] (⟨HH, fun p => .agg #[vi a.kind, vi a.req.kind, vi a.req.id, vi a.req.cabin, vi a.req.from', vi a.req.size, vi a.req.tier, vi a.n, .slice p.1 a.keep.length p.2], fun p => [slA 3 intL (.slice p.1 a.keep.length p.2) a.keep]⟩) := by
  refine ENTER0 (N := 19) (vs := [.agg #[vi a.kind, vi a.req.kind, vi a.req.id, vi a.req.cabin, vi a.req.from', vi a.req.size, vi a.req.tier, vi a.n, .slice a_keep_a a.keep.length a_keep_c]]) Try.func19 rfl rfl (Nat.le_of_ble_eq_true rfl) ?_
  have ha_keep_len := ha_keep.len
  refine SEQ (REGION [0, 1] rfl (RUN 2 [] [(1, .p 0 0), (2, .p 1 0)] [(38, [vi a.kind, vi a.req.kind, vi a.req.id, vi a.req.cabin, vi a.req.from', vi a.req.size, vi a.req.tier, vi a.n, .slice a_keep_a a.keep.length a_keep_c]), (43, [vi 0, vi 0, vi 0, vi 0, vi 0, vi 0, vi 0, vi 0, .slice none 0 0])] ?_ rfl ?_))
  · as_aux_lemma => kernel_rfl
  refine ENDOPS (NEXT (SEQ (REGION [0] rfl (RUN 1 [] [(1, .p 0 0), (2, .p 1 0), (3, .p 2 0)] [(38, [vi a.kind, vi a.req.kind, vi a.req.id, vi a.req.cabin, vi a.req.from', vi a.req.size, vi a.req.tier, vi a.n, .slice a_keep_a a.keep.length a_keep_c]), (43, [vi 0, vi 0, vi 0, vi 0, vi 0, vi 0, vi 0, vi 0, .slice none 0 0]), (43, [vi 0, vi 0, vi 0, vi 0, vi 0, vi 0, vi 0, vi 0, .slice none 0 0])] ?_ rfl ?_))))
  · as_aux_lemma => kernel_rfl
  refine ENDOPS (NEXT (SEQ (REGION [0, 1, 2, 3] rfl (RUN 4 [] [(1, .p 0 0), (2, .p 1 0), (3, .p 2 0)] [(38, [vi a.kind, vi a.req.kind, vi a.req.id, vi a.req.cabin, vi a.req.from', vi a.req.size, vi a.req.tier, vi a.n, .slice a_keep_a a.keep.length a_keep_c]), (43, [vi 0, vi 0, vi 0, vi 0, vi 0, vi 0, vi 0, vi 0, .slice none 0 0]), (43, [vi a.kind, vi 0, vi 0, vi 0, vi 0, vi 0, vi 0, vi 0, .slice none 0 0])] ?_ rfl ?_))))
  · as_aux_lemma => kernel_rfl
  refine ENDOPS (NEXT (SEQ (REGION [0, 1, 2, 3, 4] rfl (RUN0 2 [2, 3, 4] [(1, .p 0 0), (2, .p 1 0), (3, .p 2 0), (8, .v (.agg #[vi a.req.kind, vi a.req.id, vi a.req.cabin, vi a.req.from', vi a.req.size, vi a.req.tier]))] ?_ rfl ?_))))
  · as_aux_lemma => kernel_rfl
  refine OPC (CALL 23 #[.agg #[vi a.req.kind, vi a.req.id, vi a.req.cabin, vi a.req.from', vi a.req.size, vi a.req.tier]] (some 9) ?_ [] [] _ rfl (RV (.agg #[vi a.req.kind, vi a.req.id, vi a.req.cabin, vi a.req.from', vi a.req.size, vi a.req.tier])) (fun w hw => toReq_c w a.req) (by rintro _ ⟨⟩; exact Nat.le_of_ble_eq_true rfl) ?_)
  · as_aux_lemma => kernel_rfl
  rintro ⟨⟩
  refine RUN 2 [] [(1, .p 0 0), (2, .p 1 0), (3, .p 2 0)] [(38, [vi a.kind, vi a.req.kind, vi a.req.id, vi a.req.cabin, vi a.req.from', vi a.req.size, vi a.req.tier, vi a.n, .slice a_keep_a a.keep.length a_keep_c]), (43, [vi 0, vi 0, vi 0, vi 0, vi 0, vi 0, vi 0, vi 0, .slice none 0 0]), (43, [vi a.kind, vi a.req.kind, vi a.req.id, vi a.req.cabin, vi a.req.from', vi a.req.size, vi a.req.tier, vi 0, .slice none 0 0])] ?_ rfl ?_
  · as_aux_lemma => kernel_rfl
  refine ENDOPS (NEXT (SEQ (REGION [0, 1, 2, 3] rfl (RUN 4 [] [(1, .p 0 0), (2, .p 1 0), (3, .p 2 0)] [(38, [vi a.kind, vi a.req.kind, vi a.req.id, vi a.req.cabin, vi a.req.from', vi a.req.size, vi a.req.tier, vi a.n, .slice a_keep_a a.keep.length a_keep_c]), (43, [vi 0, vi 0, vi 0, vi 0, vi 0, vi 0, vi 0, vi 0, .slice none 0 0]), (43, [vi a.kind, vi a.req.kind, vi a.req.id, vi a.req.cabin, vi a.req.from', vi a.req.size, vi a.req.tier, vi a.n, .slice none 0 0])] ?_ rfl ?_))))
  · as_aux_lemma => kernel_rfl
  refine ENDOPS (NEXT (SEQ (REGION [0, 1, 2, 3, 4] rfl (RUN0 2 [2, 3, 4] [(2, .p 1 0), (3, .p 2 0), (15, .v (.slice a_keep_a a.keep.length a_keep_c))] ?_ rfl ?_))))
  · as_aux_lemma => kernel_rfl
  refine OPC (CALL 29 #[.slice a_keep_a a.keep.length a_keep_c] (some 16) ?_ [] [] _ rfl (⟨HH, fun p => .slice p.1 a.keep.length p.2, fun p => [slA 3 intL (.slice p.1 a.keep.length p.2) a.keep]⟩) (fun w hw => toIntS_c w a.keep a_keep_a a_keep_c (ha_keep.fr hw.fr) (by omega)) (by rintro _ ⟨⟩; exact Nat.le_of_ble_eq_true rfl) ?_)
  · as_aux_lemma => kernel_rfl
  rintro ⟨a1, c2⟩
  refine RUN 2 [] [(2, .p 1 0), (3, .p 2 0)] [(38, [vi a.kind, vi a.req.kind, vi a.req.id, vi a.req.cabin, vi a.req.from', vi a.req.size, vi a.req.tier, vi a.n, .slice a_keep_a a.keep.length a_keep_c]), (43, [vi 0, vi 0, vi 0, vi 0, vi 0, vi 0, vi 0, vi 0, .slice none 0 0]), (43, [vi a.kind, vi a.req.kind, vi a.req.id, vi a.req.cabin, vi a.req.from', vi a.req.size, vi a.req.tier, vi a.n, .slice a1 a.keep.length c2])] ?_ rfl ?_
  · as_aux_lemma => kernel_rfl
  refine ENDOPS (NEXT (SEQ (REGION [0, 1] rfl (RUN 2 [] [(2, .p 1 0)] [(38, [vi a.kind, vi a.req.kind, vi a.req.id, vi a.req.cabin, vi a.req.from', vi a.req.size, vi a.req.tier, vi a.n, .slice a_keep_a a.keep.length a_keep_c]), (43, [vi a.kind, vi a.req.kind, vi a.req.id, vi a.req.cabin, vi a.req.from', vi a.req.size, vi a.req.tier, vi a.n, .slice a1 a.keep.length c2]), (43, [vi a.kind, vi a.req.kind, vi a.req.id, vi a.req.cabin, vi a.req.from', vi a.req.size, vi a.req.tier, vi a.n, .slice a1 a.keep.length c2])] ?_ rfl ?_))))
  · as_aux_lemma => kernel_rfl
  refine ENDOPS (NEXT (RET (FIN (.agg #[vi a.kind, vi a.req.kind, vi a.req.id, vi a.req.cabin, vi a.req.from', vi a.req.size, vi a.req.tier, vi a.n, .slice a1 a.keep.length c2]) ?_ (a1, c2) ?_ [0] ?_)))
  · as_aux_lemma => kernel_rfl
  · rfl
  · rfl

theorem eqAct_c (W : World) (a : Act) (a_keep_a : Option Addr) (a_keep_c : Nat) (ha_keep : Rd intL W a_keep_a a.keep) (b : Act) (b_keep_a : Option Addr) (b_keep_c : Nat) (hb_keep : Rd intL W b_keep_a b.keep) : Spec Try.prog W [] 21 #[.agg #[vi a.kind, vi a.req.kind, vi a.req.id, vi a.req.cabin, vi a.req.from', vi a.req.size, vi a.req.tier, vi a.n, .slice a_keep_a a.keep.length a_keep_c], .agg #[vi b.kind, vi b.req.kind, vi b.req.id, vi b.req.cabin, vi b.req.from', vi b.req.size, vi b.req.tier, vi b.n, .slice b_keep_a b.keep.length b_keep_c]] (RV (.bool (eqAct a b))) := by
  refine ENTER0 (N := 27) (vs := [.agg #[vi a.kind, vi a.req.kind, vi a.req.id, vi a.req.cabin, vi a.req.from', vi a.req.size, vi a.req.tier, vi a.n, .slice a_keep_a a.keep.length a_keep_c], .agg #[vi b.kind, vi b.req.kind, vi b.req.id, vi b.req.cabin, vi b.req.from', vi b.req.size, vi b.req.tier, vi b.n, .slice b_keep_a b.keep.length b_keep_c]]) Try.func21 rfl rfl (Nat.le_of_ble_eq_true rfl) ?_
  have ha_keep_len := ha_keep.len
  have hb_keep_len := hb_keep.len
  refine SEQ (REGION [0, 1, 2] rfl (RUN 3 [] [(2, .p 0 0), (3, .p 1 0)] [(43, [vi a.kind, vi a.req.kind, vi a.req.id, vi a.req.cabin, vi a.req.from', vi a.req.size, vi a.req.tier, vi a.n, .slice a_keep_a a.keep.length a_keep_c]), (43, [vi b.kind, vi b.req.kind, vi b.req.id, vi b.req.cabin, vi b.req.from', vi b.req.size, vi b.req.tier, vi b.n, .slice b_keep_a b.keep.length b_keep_c])] ?_ rfl ?_))
  · as_aux_lemma => kernel_rfl
  refine ENDOPS (NEXT (SEQ (SEQ (REGION [0, 1, 2, 3, 4] rfl (RUN0 5 [] [(2, .p 0 0), (3, .p 1 0), (9, B (a.kind != b.kind))] ?_ rfl ?_)))))
  · as_aux_lemma => kernel_rfl
  refine ENDOPS (NEXT (IF (a.kind != b.kind) ?_ (fun bh1 => ?_) (fun bh1 => ?_)))
  · as_aux_lemma => kernel_rfl
  · -- a.kind != b.kind = true
    have h1 := bh1
    have h1 := bne_iff_ne.1 h1
    refine SEQ (REGION [0] rfl (RUN0 1 [] [(4, B false)] ?_ rfl ?_))
    · as_aux_lemma => kernel_rfl
    refine ENDOPS (NEXT (RET (PASS trivial (FIN (.bool false) ?_ () ?_ [] ?_))))
    · as_aux_lemma => kernel_rfl
    · simp [RV, eqAct, *]
    · rfl
  · -- a.kind != b.kind = false
    have h1 := bh1
    have h1 := bneF h1
    refine SKIP (NEXT (SEQ (SEQ (REGION [0, 1, 2, 3, 4, 5] rfl (RUN0 4 [4, 5] [(2, .p 0 0), (3, .p 1 0), (11, .v (.agg #[vi a.req.kind, vi a.req.id, vi a.req.cabin, vi a.req.from', vi a.req.size, vi a.req.tier])), (13, .v (.agg #[vi b.req.kind, vi b.req.id, vi b.req.cabin, vi b.req.from', vi b.req.size, vi b.req.tier]))] ?_ rfl ?_)))))
    · as_aux_lemma => kernel_rfl
    refine OPC (CALL 36 #[.agg #[vi a.req.kind, vi a.req.id, vi a.req.cabin, vi a.req.from', vi a.req.size, vi a.req.tier], .agg #[vi b.req.kind, vi b.req.id, vi b.req.cabin, vi b.req.from', vi b.req.size, vi b.req.tier]] (some 14) ?_ [] [] _ rfl (RV (.bool (eqReq a.req b.req))) (fun w hw => eqReq_c w a.req b.req) (by rintro _ ⟨⟩; exact Nat.le_of_ble_eq_true rfl) ?_)
    · as_aux_lemma => kernel_rfl
    rintro ⟨⟩
    refine RUN0 1 [] [(2, .p 0 0), (3, .p 1 0), (15, B (!(eqReq a.req b.req)))] ?_ rfl ?_
    · as_aux_lemma => kernel_rfl
    refine ENDOPS (NEXT (IF (!(eqReq a.req b.req)) ?_ (fun bh2 => ?_) (fun bh2 => ?_)))
    · as_aux_lemma => kernel_rfl
    · -- !(eqReq a.req b.req) = true
      have h2 := bh2
      have h2 := notT h2
      refine SEQ (REGION [0] rfl (RUN0 1 [] [(4, B false)] ?_ rfl ?_))
      · as_aux_lemma => kernel_rfl
      refine ENDOPS (NEXT (RET (PASS trivial (FIN (.bool false) ?_ () ?_ [] ?_))))
      · as_aux_lemma => kernel_rfl
      · simp [RV, eqAct, *]
      · rfl
    · -- !(eqReq a.req b.req) = false
      have h2 := bh2
      have h2 := notF h2
      refine SKIP (NEXT (SEQ (SEQ (REGION [0, 1, 2, 3, 4] rfl (RUN0 5 [] [(2, .p 0 0), (3, .p 1 0), (20, B (a.n != b.n))] ?_ rfl ?_)))))
      · as_aux_lemma => kernel_rfl
      refine ENDOPS (NEXT (IF (a.n != b.n) ?_ (fun bh3 => ?_) (fun bh3 => ?_)))
      · as_aux_lemma => kernel_rfl
      · -- a.n != b.n = true
        have h3 := bh3
        have h3 := bne_iff_ne.1 h3
        refine SEQ (REGION [0] rfl (RUN0 1 [] [(4, B false)] ?_ rfl ?_))
        · as_aux_lemma => kernel_rfl
        refine ENDOPS (NEXT (RET (PASS trivial (FIN (.bool false) ?_ () ?_ [] ?_))))
        · as_aux_lemma => kernel_rfl
        · simp [RV, eqAct, *]
        · rfl
      · -- a.n != b.n = false
        have h3 := bh3
        have h3 := bneF h3
        refine SKIP (NEXT (SEQ (SEQ (REGION [0, 1, 2, 3, 4, 5] rfl (RUN0 4 [4, 5] [(22, .v (.slice a_keep_a a.keep.length a_keep_c)), (24, .v (.slice b_keep_a b.keep.length b_keep_c))] ?_ rfl ?_)))))
        · as_aux_lemma => kernel_rfl
        refine OPC (CALL 32 #[.slice a_keep_a a.keep.length a_keep_c, .slice b_keep_a b.keep.length b_keep_c] (some 25) ?_ [] [] _ rfl (RV (.bool (eqInts a.keep b.keep))) (fun w hw => eqIntS_c w a.keep a_keep_a a_keep_c (ha_keep.fr hw.fr) b.keep b_keep_a b_keep_c (hb_keep.fr hw.fr)) (by rintro _ ⟨⟩; exact Nat.le_of_ble_eq_true rfl) ?_)
        · as_aux_lemma => kernel_rfl
        rintro ⟨⟩
        refine RUN0 1 [] [(26, B (!(eqInts a.keep b.keep)))] ?_ rfl ?_
        · as_aux_lemma => kernel_rfl
        refine ENDOPS (NEXT (IF (!(eqInts a.keep b.keep)) ?_ (fun bh4 => ?_) (fun bh4 => ?_)))
        · as_aux_lemma => kernel_rfl
        · -- !(eqInts a.keep b.keep) = true
          have h4 := bh4
          have h4 := notT h4
          refine SEQ (REGION [0] rfl (RUN0 1 [] [(4, B false)] ?_ rfl ?_))
          · as_aux_lemma => kernel_rfl
          refine ENDOPS (NEXT (RET (PASS trivial (FIN (.bool false) ?_ () ?_ [] ?_))))
          · as_aux_lemma => kernel_rfl
          · simp [RV, eqAct, *]
          · rfl
        · -- !(eqInts a.keep b.keep) = false
          have h4 := bh4
          have h4 := notF h4
          refine SKIP (NEXT (SEQ (REGION [0] rfl (RUN0 1 [] [(4, B true)] ?_ rfl ?_))))
          · as_aux_lemma => kernel_rfl
          refine ENDOPS (NEXT (RET (FIN (.bool true) ?_ () ?_ [] ?_)))
          · as_aux_lemma => kernel_rfl
          · simp [RV, eqAct, *]
          · rfl

theorem sActOk_c (W : World) (a : Act) (a_keep_a : Option Addr) (a_keep_c : Nat) (ha_keep : Rd intL W a_keep_a a.keep) : Spec Try.prog W [] 18 #[.agg #[vi a.kind, vi a.req.kind, vi a.req.id, vi a.req.cabin, vi a.req.from', vi a.req.size, vi a.req.tier, vi a.n, .slice a_keep_a a.keep.length a_keep_c]] (RV (.bool (actOk a))) := by
  refine ENTER0 (N := 83) (vs := [.agg #[vi a.kind, vi a.req.kind, vi a.req.id, vi a.req.cabin, vi a.req.from', vi a.req.size, vi a.req.tier, vi a.n, .slice a_keep_a a.keep.length a_keep_c]]) Try.func18 rfl rfl (Nat.le_of_ble_eq_true rfl) ?_
  have ha_keep_len := ha_keep.len
  refine SEQ (REGION [0, 1] rfl (RUN 2 [] [(1, .p 0 0)] [(43, [vi a.kind, vi a.req.kind, vi a.req.id, vi a.req.cabin, vi a.req.from', vi a.req.size, vi a.req.tier, vi a.n, .slice a_keep_a a.keep.length a_keep_c])] ?_ rfl ?_))
  · as_aux_lemma => kernel_rfl
  refine ENDOPS (NEXT (SEQ (REGION [0, 1, 2, 3, 4] rfl (RUN0 3 [3, 4] [(1, .p 0 0), (6, .v (.agg #[vi a.req.kind, vi a.req.id, vi a.req.cabin, vi a.req.from', vi a.req.size, vi a.req.tier])), (7, .v (.agg #[vi 0, vi 0, vi 0, vi 0, vi 0, vi 0]))] ?_ rfl ?_))))
  · as_aux_lemma => kernel_rfl
  refine OPC (RUNV (.binOp .eql 41 (.tmp 6) (.tmp 7) 41) 8 4 ?_ (Nat.le_of_ble_eq_true rfl) (.bool ((a.req.kind == 0) && ((a.req.id == 0) && ((a.req.cabin == 0) && ((a.req.from' == 0) && ((a.req.size == 0) && ((a.req.tier == 0) && true))))))) (runs_eql (xs := [vi a.req.kind, vi a.req.id, vi a.req.cabin, vi a.req.from', vi a.req.size, vi a.req.tier]) (ys := [vi 0, vi 0, vi 0, vi 0, vi 0, vi 0]) (r := (a.req.kind == 0) && ((a.req.id == 0) && ((a.req.cabin == 0) && ((a.req.from' == 0) && ((a.req.size == 0) && ((a.req.tier == 0) && true)))))) ?_ ?_ ?_) ?_)
  · as_aux_lemma => kernel_rfl
  · as_aux_lemma => kernel_rfl
  · as_aux_lemma => kernel_rfl
  · as_aux_lemma => kernel_rfl
  refine RUN0 1 [] [(1, .p 0 0), (3, B ((a.req.kind == 0) && ((a.req.id == 0) && ((a.req.cabin == 0) && ((a.req.from' == 0) && ((a.req.size == 0) && ((a.req.tier == 0) && true)))))))] ?_ rfl ?_
  · as_aux_lemma => kernel_rfl
  refine ENDOPS (NEXT (SEQ (SEQ (REGION [0, 1] rfl (RUN0 2 [] [(1, .p 0 0), (3, B ((a.req.kind == 0) && ((a.req.id == 0) && ((a.req.cabin == 0) && ((a.req.from' == 0) && ((a.req.size == 0) && ((a.req.tier == 0) && true))))))), (10, I a.kind)] ?_ rfl ?_)))))
  · as_aux_lemma => kernel_rfl
  refine ENDOPS (NEXT (BLOCK (SEQ (REGION [0, 1] rfl (RUN0 2 [] [(1, .p 0 0), (3, B ((a.req.kind == 0) && ((a.req.id == 0) && ((a.req.cabin == 0) && ((a.req.from' == 0) && ((a.req.size == 0) && ((a.req.tier == 0) && true))))))), (10, I a.kind), (11, B (a.kind == 1))] ?_ rfl ?_)))))
  · as_aux_lemma => kernel_rfl
  refine ENDOPS (NEXT (IF (a.kind == 1) ?_ (fun bh1 => ?_) (fun bh1 => ?_)))
  · as_aux_lemma => kernel_rfl
  · -- a.kind == 1 = true
    have h1 := bh1
    have h1 := eq_of_beq h1
    refine SEQ (REGION [0, 1, 2, 3, 4, 5, 6, 7, 8, 9, 10, 11, 12, 13, 14] rfl (RUN0 2 [2, 3, 4, 5, 6, 7, 8, 9, 10, 11, 12, 13, 14] [(1, .p 0 0), (14, .v (.agg #[vi a.req.kind, vi a.req.id, vi a.req.cabin, vi a.req.from', vi a.req.size, vi a.req.tier]))] ?_ rfl ?_))
    · as_aux_lemma => kernel_rfl
    refine OPC (CALL 33 #[.agg #[vi a.req.kind, vi a.req.id, vi a.req.cabin, vi a.req.from', vi a.req.size, vi a.req.tier]] (some 15) ?_ [] [] _ rfl (RV (.bool (reqOk a.req))) (fun w hw => sReqOk_c w a.req) (by rintro _ ⟨⟩; exact Nat.le_of_ble_eq_true rfl) ?_)
    · as_aux_lemma => kernel_rfl
    rintro ⟨⟩
    refine RUN0 1 [4, 5, 6, 7, 8, 9, 10, 11, 12, 13, 14] [(1, .p 0 0), (16, B (reqOk a.req))] ?_ rfl ?_
    · as_aux_lemma => kernel_rfl
    refine SPLIT (d := 16) (reqOk a.req) ?_ (fun bh2 => ?_) (fun bh2 => ?_)
    · as_aux_lemma => kernel_rfl
    · -- reqOk a.req = true
      have h2 := bh2
      refine RUN0 5 [9, 10, 11, 12, 13, 14] [(1, .p 0 0), (21, B (a.n == 0))] ?_ rfl ?_
      · as_aux_lemma => kernel_rfl
      refine SPLIT (d := 21) (a.n == 0) ?_ (fun bh3 => ?_) (fun bh3 => ?_)
      · as_aux_lemma => kernel_rfl
      · -- a.n == 0 = true
        have h3 := bh3
        have h3 := eq_of_beq h3
        refine RUN0 6 [] [(2, B ((a.keep.length : Int) == 0))] ?_ rfl ?_
        · as_aux_lemma => kernel_rfl
        refine ENDOPS (NEXT (RET (OUTR (PASS trivial (FIN (.bool ((a.keep.length : Int) == 0)) ?_ () ?_ [] ?_)))))
        · as_aux_lemma => kernel_rfl
        · simp_all [RV, actOk, noReq, reqEq, allKeep]
        · rfl
      · -- a.n == 0 = false
        have h3 := bh3
        have h3 := ne_of_beq_false h3
        refine RUN0 6 [] [(2, B false)] ?_ rfl ?_
        · as_aux_lemma => kernel_rfl
        refine ENDOPS (NEXT (RET (OUTR (PASS trivial (FIN (.bool false) ?_ () ?_ [] ?_)))))
        · as_aux_lemma => kernel_rfl
        · simp_all [RV, actOk, noReq, reqEq, allKeep]
        · rfl
    · -- reqOk a.req = false
      have h2 := bh2
      refine RUN0 11 [] [(2, B false)] ?_ rfl ?_
      · as_aux_lemma => kernel_rfl
      refine ENDOPS (NEXT (RET (OUTR (PASS trivial (FIN (.bool false) ?_ () ?_ [] ?_)))))
      · as_aux_lemma => kernel_rfl
      · simp_all [RV, actOk, noReq, reqEq, allKeep]
      · rfl
  · -- a.kind == 1 = false
    have h1 := bh1
    have h1 := ne_of_beq_false h1
    refine SEQ (REGION [0, 1] rfl (RUN0 2 [] [(1, .p 0 0), (3, B ((a.req.kind == 0) && ((a.req.id == 0) && ((a.req.cabin == 0) && ((a.req.from' == 0) && ((a.req.size == 0) && ((a.req.tier == 0) && true))))))), (10, I a.kind), (27, B (a.kind == 2))] ?_ rfl ?_))
    · as_aux_lemma => kernel_rfl
    refine ENDOPS (NEXT (IF (a.kind == 2) ?_ (fun bh4 => ?_) (fun bh4 => ?_)))
    · as_aux_lemma => kernel_rfl
    · -- a.kind == 2 = true
      have h4 := bh4
      have h4 := eq_of_beq h4
      refine SEQ (REGION [0, 1, 2, 3, 4, 5, 6, 7, 8, 9, 10, 11, 12] rfl (RUN0 2 [2, 3, 4, 5, 6, 7, 8, 9, 10, 11, 12] [(1, .p 0 0), (30, B ((a.req.kind == 0) && ((a.req.id == 0) && ((a.req.cabin == 0) && ((a.req.from' == 0) && ((a.req.size == 0) && ((a.req.tier == 0) && true)))))))] ?_ rfl ?_))
      · as_aux_lemma => kernel_rfl
      refine SPLIT (d := 30) ((a.req.kind == 0) && ((a.req.id == 0) && ((a.req.cabin == 0) && ((a.req.from' == 0) && ((a.req.size == 0) && ((a.req.tier == 0) && true)))))) ?_ (fun bh5 => ?_) (fun bh5 => ?_)
      · as_aux_lemma => kernel_rfl
      · -- (a.req.kind == 0) && ((a.req.id == 0) && ((a.req.cabin == 0) && ((a.req.from' == 0) && ((a.req.size  = true
        have h5 := bh5
        refine RUN0 5 [7, 8, 9, 10, 11, 12] [(1, .p 0 0), (35, B (a.n == 0))] ?_ rfl ?_
        · as_aux_lemma => kernel_rfl
        refine SPLIT (d := 35) (a.n == 0) ?_ (fun bh6 => ?_) (fun bh6 => ?_)
        · as_aux_lemma => kernel_rfl
        · -- a.n == 0 = true
          have h6 := bh6
          have h6 := eq_of_beq h6
          refine RUN0 6 [] [(2, B ((a.keep.length : Int) == 0))] ?_ rfl ?_
          · as_aux_lemma => kernel_rfl
          refine ENDOPS (NEXT (RET (OUTR (PASS trivial (FIN (.bool ((a.keep.length : Int) == 0)) ?_ () ?_ [] ?_)))))
          · as_aux_lemma => kernel_rfl
          · simp_all [RV, actOk, noReq, reqEq, allKeep]
          · rfl
        · -- a.n == 0 = false
          have h6 := bh6
          have h6 := ne_of_beq_false h6
          refine RUN0 6 [] [(2, B false)] ?_ rfl ?_
          · as_aux_lemma => kernel_rfl
          refine ENDOPS (NEXT (RET (OUTR (PASS trivial (FIN (.bool false) ?_ () ?_ [] ?_)))))
          · as_aux_lemma => kernel_rfl
          · simp_all [RV, actOk, noReq, reqEq, allKeep]
          · rfl
      · -- (a.req.kind == 0) && ((a.req.id == 0) && ((a.req.cabin == 0) && ((a.req.from' == 0) && ((a.req.size  = false
        have h5 := bh5
        refine RUN0 11 [] [(2, B false)] ?_ rfl ?_
        · as_aux_lemma => kernel_rfl
        refine ENDOPS (NEXT (RET (OUTR (PASS trivial (FIN (.bool false) ?_ () ?_ [] ?_)))))
        · as_aux_lemma => kernel_rfl
        · simp_all [RV, actOk, noReq, reqEq, allKeep]
        · rfl
    · -- a.kind == 2 = false
      have h4 := bh4
      have h4 := ne_of_beq_false h4
      refine SEQ (REGION [0, 1] rfl (RUN0 2 [] [(1, .p 0 0), (3, B ((a.req.kind == 0) && ((a.req.id == 0) && ((a.req.cabin == 0) && ((a.req.from' == 0) && ((a.req.size == 0) && ((a.req.tier == 0) && true))))))), (10, I a.kind), (41, B (a.kind == 3))] ?_ rfl ?_))
      · as_aux_lemma => kernel_rfl
      refine ENDOPS (NEXT (IF (a.kind == 3) ?_ (fun bh7 => ?_) (fun bh7 => ?_)))
      · as_aux_lemma => kernel_rfl
      · -- a.kind == 3 = true
        have h7 := bh7
        have h7 := eq_of_beq h7
        refine SEQ (REGION [0, 1, 2, 3, 4, 5, 6, 7, 8, 9, 10, 11, 12] rfl (RUN0 2 [2, 3, 4, 5, 6, 7, 8, 9, 10, 11, 12] [(1, .p 0 0), (44, B ((a.req.kind == 0) && ((a.req.id == 0) && ((a.req.cabin == 0) && ((a.req.from' == 0) && ((a.req.size == 0) && ((a.req.tier == 0) && true)))))))] ?_ rfl ?_))
        · as_aux_lemma => kernel_rfl
        refine SPLIT (d := 44) ((a.req.kind == 0) && ((a.req.id == 0) && ((a.req.cabin == 0) && ((a.req.from' == 0) && ((a.req.size == 0) && ((a.req.tier == 0) && true)))))) ?_ (fun bh8 => ?_) (fun bh8 => ?_)
        · as_aux_lemma => kernel_rfl
        · -- (a.req.kind == 0) && ((a.req.id == 0) && ((a.req.cabin == 0) && ((a.req.from' == 0) && ((a.req.size  = true
          have h8 := bh8
          refine RUN0 2 [4, 5, 6, 7, 8, 9, 10, 11, 12] [(1, .p 0 0), (44, B true), (46, I a.n)] ?_ rfl ?_
          · as_aux_lemma => kernel_rfl
          refine OPC (CALL 34 #[vi a.n] (some 47) ?_ [] [] _ rfl (RV (.bool (usedB a.n))) (fun w hw => l12Field_c w a.n) (by rintro _ ⟨⟩; exact Nat.le_of_ble_eq_true rfl) ?_)
          · as_aux_lemma => kernel_rfl
          rintro ⟨⟩
          refine RUN0 2 [7, 8, 9, 10, 11, 12] [(1, .p 0 0), (49, B (usedB a.n))] ?_ rfl ?_
          · as_aux_lemma => kernel_rfl
          refine SPLIT (d := 49) (usedB a.n) ?_ (fun bh9 => ?_) (fun bh9 => ?_)
          · as_aux_lemma => kernel_rfl
          · -- usedB a.n = true
            have h9 := bh9
            refine RUN0 6 [] [(2, B ((a.keep.length : Int) == 0))] ?_ rfl ?_
            · as_aux_lemma => kernel_rfl
            refine ENDOPS (NEXT (RET (OUTR (PASS trivial (FIN (.bool ((a.keep.length : Int) == 0)) ?_ () ?_ [] ?_)))))
            · as_aux_lemma => kernel_rfl
            · simp_all [RV, actOk, noReq, reqEq, allKeep]
            · rfl
          · -- usedB a.n = false
            have h9 := bh9
            refine RUN0 6 [] [(2, B false)] ?_ rfl ?_
            · as_aux_lemma => kernel_rfl
            refine ENDOPS (NEXT (RET (OUTR (PASS trivial (FIN (.bool false) ?_ () ?_ [] ?_)))))
            · as_aux_lemma => kernel_rfl
            · simp_all [RV, actOk, noReq, reqEq, allKeep]
            · rfl
        · -- (a.req.kind == 0) && ((a.req.id == 0) && ((a.req.cabin == 0) && ((a.req.from' == 0) && ((a.req.size  = false
          have h8 := bh8
          refine RUN0 11 [] [(2, B false)] ?_ rfl ?_
          · as_aux_lemma => kernel_rfl
          refine ENDOPS (NEXT (RET (OUTR (PASS trivial (FIN (.bool false) ?_ () ?_ [] ?_)))))
          · as_aux_lemma => kernel_rfl
          · simp_all [RV, actOk, noReq, reqEq, allKeep]
          · rfl
      · -- a.kind == 3 = false
        have h7 := bh7
        have h7 := ne_of_beq_false h7
        refine SEQ (REGION [0, 1] rfl (RUN0 2 [] [(1, .p 0 0), (3, B ((a.req.kind == 0) && ((a.req.id == 0) && ((a.req.cabin == 0) && ((a.req.from' == 0) && ((a.req.size == 0) && ((a.req.tier == 0) && true))))))), (55, B (a.kind == 4))] ?_ rfl ?_))
        · as_aux_lemma => kernel_rfl
        refine ENDOPS (NEXT (IF (a.kind == 4) ?_ (fun bh10 => ?_) (fun bh10 => ?_)))
        · as_aux_lemma => kernel_rfl
        · -- a.kind == 4 = true
          have h10 := bh10
          have h10 := eq_of_beq h10
          refine SEQ (SEQ (REGION [0] rfl (RUN0 1 [] [(1, .p 0 0), (3, B ((a.req.kind == 0) && ((a.req.id == 0) && ((a.req.cabin == 0) && ((a.req.from' == 0) && ((a.req.size == 0) && ((a.req.tier == 0) && true))))))), (4, I 0)] ?_ rfl ?_)))
          · as_aux_lemma => kernel_rfl
          refine ENDOPS (NEXT (BLOCK (LOOP (ι := Nat × (List Int)) (fun j => [(1, .p 0 0), (3, B ((a.req.kind == 0) && ((a.req.id == 0) && ((a.req.cabin == 0) && ((a.req.from' == 0) && ((a.req.size == 0) && ((a.req.tier == 0) && true))))))), (4, I (j.1 : Int))]) (fun j => [(43, [vi a.kind, vi a.req.kind, vi a.req.id, vi a.req.cabin, vi a.req.from', vi a.req.size, vi a.req.tier, vi a.n, .slice a_keep_a a.keep.length a_keep_c])]) (fun j => []) (fun j => j.1 + j.2.length = a.keep.length ∧ a.keep.drop j.1 = j.2 ∧ allKeep a.keep = allKeep j.2) (fun j => j.2.length) (0, a.keep) [1, 3, 4] ⟨by simp, rfl, rfl⟩ ?_ rfl rfl ?_)))
          · as_aux_lemma => kernel_rfl
          rintro ⟨k, ys⟩ ⟨hk, hd, hv0⟩
          dsimp only at hk hd hv0
          refine SEQ (SEQ (REGION [0, 1, 2, 3, 4] rfl (RUN0 5 [] [(1, .p 0 0), (3, B ((a.req.kind == 0) && ((a.req.id == 0) && ((a.req.cabin == 0) && ((a.req.from' == 0) && ((a.req.size == 0) && ((a.req.tier == 0) && true))))))), (4, I (k : Int)), (61, B (decide ((k : Int) < (a.keep.length : Int))))] ?_ rfl ?_)))
          · as_aux_lemma => kernel_rfl
          refine ENDOPS (NEXT (IF (decide ((k : Int) < (a.keep.length : Int))) ?_ (fun bh11 => ?_) (fun bh11 => ?_)))
          · as_aux_lemma => kernel_rfl
          · -- decide ((k : Int) < (a.keep.length : Int)) = true
            have h11 := bh11
            have h11 := of_decide_eq_true h11
            obtain ⟨y12, ys13, rfl, hx_y12, hd_y12, hl_y12⟩ := drop_cons hd hk (by omega)
            refine SKIP (NEXT (SEQ (BLOCK (SEQ (REGION [0, 1, 2, 3, 4, 5, 6] rfl (RUN0 3 [3, 4, 5, 6] [(1, .p 0 0), (3, B ((a.req.kind == 0) && ((a.req.id == 0) && ((a.req.cabin == 0) && ((a.req.from' == 0) && ((a.req.size == 0) && ((a.req.tier == 0) && true))))))), (4, I (k : Int)), (65, .v (.slice a_keep_a a.keep.length a_keep_c)), (66, I (k : Int))] ?_ rfl ?_))))))
            · as_aux_lemma => kernel_rfl
            refine OPC (INDEX 24 (.tmp 65) (.tmp 66) 67 0 ?_ (Nat.le_of_ble_eq_true rfl) a_keep_a a.keep.length a_keep_c .i64 (k : Int) 3 1 ?_ ?_ ?_ ?_ (Rd.some ha_keep (by omega)) (by omega) (by omega) ?_)
            · as_aux_lemma => kernel_rfl
            · as_aux_lemma => kernel_rfl
            · as_aux_lemma => kernel_rfl
            · as_aux_lemma => kernel_rfl
            · as_aux_lemma => kernel_rfl
            refine OPC (LOADE 3 (.tmp 67) 68 3 ?_ (Nat.le_of_ble_eq_true rfl) a_keep_a (k * 1) 0 [vi y12] (vi y12) ?_ (fun w hw => (ha_keep.fr hw.fr).flat hx_y12) ?_ ?_)
            · as_aux_lemma => kernel_rfl
            · as_aux_lemma => kernel_rfl
            · as_aux_lemma => kernel_rfl
            refine OPC (CALL 25 #[vi y12, vi 0, vi 20000] (some 69) ?_ [] [] _ rfl (RV (.bool (inB y12 0 20000))) (fun w hw => l1In_c w y12 0 20000) (by rintro _ ⟨⟩; exact Nat.le_of_ble_eq_true rfl) ?_)
            · as_aux_lemma => kernel_rfl
            rintro ⟨⟩
            refine RUN0 1 [] [(1, .p 0 0), (3, B ((a.req.kind == 0) && ((a.req.id == 0) && ((a.req.cabin == 0) && ((a.req.from' == 0) && ((a.req.size == 0) && ((a.req.tier == 0) && true))))))), (4, I (k : Int)), (70, B (!(inB y12 0 20000)))] ?_ rfl ?_
            · as_aux_lemma => kernel_rfl
            refine ENDOPS (NEXT (IF (!(inB y12 0 20000)) ?_ (fun bh14 => ?_) (fun bh14 => ?_)))
            · as_aux_lemma => kernel_rfl
            · -- !(inB y12 0 20000) = true
              have h14 := bh14
              have h14 := notT h14
              refine SEQ (REGION [0] rfl (RUN0 1 [] [(2, B false)] ?_ rfl ?_))
              · as_aux_lemma => kernel_rfl
              refine ENDOPS (NEXT (RET (OUTR (PASS trivial (PASS trivial (OUTR (PASS trivial (OUTR (PASS trivial (FIN (.bool false) ?_ () ?_ [] ?_))))))))))
              · as_aux_lemma => kernel_rfl
              · simp_all [RV, actOk, noReq, reqEq, allKeep]
              · rfl
            · -- !(inB y12 0 20000) = false
              have h14 := bh14
              have h14 := notF h14
              refine SKIP (OUTN (NEXT (REGION [0, 1, 2] rfl (RUN0 2 [2] [(1, .p 0 0), (3, B ((a.req.kind == 0) && ((a.req.id == 0) && ((a.req.cabin == 0) && ((a.req.from' == 0) && ((a.req.size == 0) && ((a.req.tier == 0) && true))))))), (63, I (wr ((k : Int) + 1)))] ?_ rfl ?_))))
              · as_aux_lemma => kernel_rfl
              refine CAST (d := 63) (vi (wr ((k : Int) + 1))) (vi ((k + 1 : Nat) : Int)) ?_ (vi_cast (by omega) (by omega)) ?_
              · as_aux_lemma => kernel_rfl
              refine RUN0 1 [] [(1, .p 0 0), (3, B ((a.req.kind == 0) && ((a.req.id == 0) && ((a.req.cabin == 0) && ((a.req.from' == 0) && ((a.req.size == 0) && ((a.req.tier == 0) && true))))))), (4, I ((k + 1 : Nat) : Int))] ?_ rfl ?_
              · as_aux_lemma => kernel_rfl
              refine ENDOPS (BACK (k + 1, ys13) [1, 3, 4] 1 [] _ ⟨hl_y12, hd_y12, hv0.trans (by simp [allKeep, *])⟩ (by simp) ?_ rfl rfl rfl)
              · as_aux_lemma => kernel_rfl
          · -- decide ((k : Int) < (a.keep.length : Int)) = false
            have h11 := bh11
            have h11 := of_decide_eq_false h11
            obtain rfl := drop_nil hk (by omega)
            refine EXIT (PASS trivial (PASS trivial (OUT (NEXT (SEQ (REGION [0, 1, 2, 3, 4, 5, 6, 7, 8, 9, 10, 11, 12] rfl (RUN0 2 [2, 3, 4, 5, 6, 7, 8, 9, 10, 11, 12] [(1, .p 0 0), (72, B ((a.req.kind == 0) && ((a.req.id == 0) && ((a.req.cabin == 0) && ((a.req.from' == 0) && ((a.req.size == 0) && ((a.req.tier == 0) && true)))))))] ?_ rfl ?_)))))))
            · as_aux_lemma => kernel_rfl
            refine SPLIT (d := 72) ((a.req.kind == 0) && ((a.req.id == 0) && ((a.req.cabin == 0) && ((a.req.from' == 0) && ((a.req.size == 0) && ((a.req.tier == 0) && true)))))) ?_ (fun bh15 => ?_) (fun bh15 => ?_)
            · as_aux_lemma => kernel_rfl
            · -- (a.req.kind == 0) && ((a.req.id == 0) && ((a.req.cabin == 0) && ((a.req.from' == 0) && ((a.req.size  = true
              have h15 := bh15
              refine RUN0 5 [7, 8, 9, 10, 11, 12] [(1, .p 0 0), (77, B (a.n == 0))] ?_ rfl ?_
              · as_aux_lemma => kernel_rfl
              refine SPLIT (d := 77) (a.n == 0) ?_ (fun bh16 => ?_) (fun bh16 => ?_)
              · as_aux_lemma => kernel_rfl
              · -- a.n == 0 = true
                have h16 := bh16
                have h16 := eq_of_beq h16
                refine RUN0 6 [] [(2, B (decide ((a.keep.length : Int) ≤ 3)))] ?_ rfl ?_
                · as_aux_lemma => kernel_rfl
                refine ENDOPS (NEXT (RET (OUTR (PASS trivial (FIN (.bool (decide ((a.keep.length : Int) ≤ 3))) ?_ () ?_ [] ?_)))))
                · as_aux_lemma => kernel_rfl
                · simp_all [RV, actOk, noReq, reqEq, allKeep]
                · rfl
              · -- a.n == 0 = false
                have h16 := bh16
                have h16 := ne_of_beq_false h16
                refine RUN0 6 [] [(2, B false)] ?_ rfl ?_
                · as_aux_lemma => kernel_rfl
                refine ENDOPS (NEXT (RET (OUTR (PASS trivial (FIN (.bool false) ?_ () ?_ [] ?_)))))
                · as_aux_lemma => kernel_rfl
                · simp_all [RV, actOk, noReq, reqEq, allKeep]
                · rfl
            · -- (a.req.kind == 0) && ((a.req.id == 0) && ((a.req.cabin == 0) && ((a.req.from' == 0) && ((a.req.size  = false
              have h15 := bh15
              refine RUN0 11 [] [(2, B false)] ?_ rfl ?_
              · as_aux_lemma => kernel_rfl
              refine ENDOPS (NEXT (RET (OUTR (PASS trivial (FIN (.bool false) ?_ () ?_ [] ?_)))))
              · as_aux_lemma => kernel_rfl
              · simp_all [RV, actOk, noReq, reqEq, allKeep]
              · rfl
        · -- a.kind == 4 = false
          have h10 := bh10
          have h10 := ne_of_beq_false h10
          refine SKIP (OUTN (NEXT (SEQ (REGION [0] rfl (RUN0 1 [] [(2, B false)] ?_ rfl ?_)))))
          · as_aux_lemma => kernel_rfl
          refine ENDOPS (NEXT (RET (FIN (.bool false) ?_ () ?_ [] ?_)))
          · as_aux_lemma => kernel_rfl
          · simp_all [RV, actOk, noReq, reqEq, allKeep]
          · rfl

theorem iActOk_c (W : World) (a : Act) (a_keep_a : Option Addr) (a_keep_c : Nat) (ha_keep : Rd intL W a_keep_a a.keep) : Spec Try.prog W [] 20 #[.agg #[vi a.kind, vi a.req.kind, vi a.req.id, vi a.req.cabin, vi a.req.from', vi a.req.size, vi a.req.tier, vi a.n, .slice a_keep_a a.keep.length a_keep_c]] (RV (.bool (actOk a))) := by
  refine ENTER0 (N := 66) (vs := [.agg #[vi a.kind, vi a.req.kind, vi a.req.id, vi a.req.cabin, vi a.req.from', vi a.req.size, vi a.req.tier, vi a.n, .slice a_keep_a a.keep.length a_keep_c]]) Try.func20 rfl rfl (Nat.le_of_ble_eq_true rfl) ?_
  have ha_keep_len := ha_keep.len
  refine SEQ (REGION [0, 1] rfl (RUN 2 [] [(1, .p 0 0)] [(43, [vi a.kind, vi a.req.kind, vi a.req.id, vi a.req.cabin, vi a.req.from', vi a.req.size, vi a.req.tier, vi a.n, .slice a_keep_a a.keep.length a_keep_c])] ?_ rfl ?_))
  · as_aux_lemma => kernel_rfl
  refine ENDOPS (NEXT (SEQ (SEQ (REGION [0, 1, 2, 3, 4, 5, 6, 7, 8, 9, 10, 11, 12, 13, 14, 15, 16, 17, 18, 19, 20, 21, 22, 23, 24, 25, 26, 27, 28, 29] rfl (RUN0 4 [4, 5, 6, 7, 8, 9, 10, 11, 12, 13, 14, 15, 16, 17, 18, 19, 20, 21, 22, 23, 24, 25, 26, 27, 28, 29] [(1, .p 0 0), (8, B (a.kind != 1))] ?_ rfl ?_)))))
  · as_aux_lemma => kernel_rfl
  refine SPLIT (d := 8) (a.kind != 1) ?_ (fun bh1 => ?_) (fun bh1 => ?_)
  · as_aux_lemma => kernel_rfl
  · -- a.kind != 1 = true
    have h1 := bh1
    have h1 := bne_iff_ne.1 h1
    refine RUN0 3 [7, 8, 9, 10, 11, 12, 13, 14, 15, 16, 17, 18, 19, 20, 21, 22, 23, 24, 25, 26, 27, 28, 29] [(1, .p 0 0), (8, B true), (10, .v (.agg #[vi a.req.kind, vi a.req.id, vi a.req.cabin, vi a.req.from', vi a.req.size, vi a.req.tier])), (11, .v (.agg #[vi 0, vi 0, vi 0, vi 0, vi 0, vi 0]))] ?_ rfl ?_
    · as_aux_lemma => kernel_rfl
    refine OPC (RUNV (.binOp .neq 41 (.tmp 10) (.tmp 11) 41) 12 4 ?_ (Nat.le_of_ble_eq_true rfl) (.bool (!((a.req.kind == 0) && ((a.req.id == 0) && ((a.req.cabin == 0) && ((a.req.from' == 0) && ((a.req.size == 0) && ((a.req.tier == 0) && true)))))))) (runs_neq (xs := [vi a.req.kind, vi a.req.id, vi a.req.cabin, vi a.req.from', vi a.req.size, vi a.req.tier]) (ys := [vi 0, vi 0, vi 0, vi 0, vi 0, vi 0]) (r := (a.req.kind == 0) && ((a.req.id == 0) && ((a.req.cabin == 0) && ((a.req.from' == 0) && ((a.req.size == 0) && ((a.req.tier == 0) && true)))))) ?_ ?_ ?_) ?_)
    · as_aux_lemma => kernel_rfl
    · as_aux_lemma => kernel_rfl
    · as_aux_lemma => kernel_rfl
    · as_aux_lemma => kernel_rfl
    refine RUN0 2 [10, 11, 12, 13, 14, 15, 16, 17, 18, 19, 20, 21, 22, 23, 24, 25, 26, 27, 28, 29] [(1, .p 0 0), (14, B (!((a.req.kind == 0) && ((a.req.id == 0) && ((a.req.cabin == 0) && ((a.req.from' == 0) && ((a.req.size == 0) && ((a.req.tier == 0) && true))))))))] ?_ rfl ?_
    · as_aux_lemma => kernel_rfl
    refine SPLIT (d := 14) (!((a.req.kind == 0) && ((a.req.id == 0) && ((a.req.cabin == 0) && ((a.req.from' == 0) && ((a.req.size == 0) && ((a.req.tier == 0) && true))))))) ?_ (fun bh2 => ?_) (fun bh2 => ?_)
    · as_aux_lemma => kernel_rfl
    · -- !((a.req.kind == 0) && ((a.req.id == 0) && ((a.req.cabin == 0) && ((a.req.from' == 0) && ((a.req.siz = true
      have h2 := bh2
      have h2 := notT h2
      refine RUN0 20 [] [(1, .p 0 0), (34, B true)] ?_ rfl ?_
      · as_aux_lemma => kernel_rfl
      refine ENDOPS (NEXT (IFT ?_ ?_))
      · as_aux_lemma => kernel_rfl
      refine SEQ (REGION [0] rfl (RUN0 1 [] [(2, B false)] ?_ rfl ?_))
      · as_aux_lemma => kernel_rfl
      refine ENDOPS (NEXT (RET (PASS trivial (FIN (.bool false) ?_ () ?_ [] ?_))))
      · as_aux_lemma => kernel_rfl
      · (try simp [usedB] at *); simp_all [RV, actOk, noReq, reqEq, allKeep, usedB, List.length_pos_iff]
      · rfl
    · -- !((a.req.kind == 0) && ((a.req.id == 0) && ((a.req.cabin == 0) && ((a.req.from' == 0) && ((a.req.siz = false
      have h2 := bh2
      have h2 := notF h2
      refine RUN0 4 [14, 15, 16, 17, 18, 19, 20, 21, 22, 23, 24, 25, 26, 27, 28, 29] [(1, .p 0 0), (14, B false), (18, B (a.kind != 3))] ?_ rfl ?_
      · as_aux_lemma => kernel_rfl
      refine SPLIT (d := 18) (a.kind != 3) ?_ (fun bh3 => ?_) (fun bh3 => ?_)
      · as_aux_lemma => kernel_rfl
      · -- a.kind != 3 = true
        have h3 := bh3
        have h3 := bne_iff_ne.1 h3
        refine RUN0 6 [20, 21, 22, 23, 24, 25, 26, 27, 28, 29] [(1, .p 0 0), (24, B (a.n != 0))] ?_ rfl ?_
        · as_aux_lemma => kernel_rfl
        refine SPLIT (d := 24) (a.n != 0) ?_ (fun bh4 => ?_) (fun bh4 => ?_)
        · as_aux_lemma => kernel_rfl
        · -- a.n != 0 = true
          have h4 := bh4
          have h4 := bne_iff_ne.1 h4
          refine RUN0 10 [] [(1, .p 0 0), (34, B true)] ?_ rfl ?_
          · as_aux_lemma => kernel_rfl
          refine ENDOPS (NEXT (IFT ?_ ?_))
          · as_aux_lemma => kernel_rfl
          refine SEQ (REGION [0] rfl (RUN0 1 [] [(2, B false)] ?_ rfl ?_))
          · as_aux_lemma => kernel_rfl
          refine ENDOPS (NEXT (RET (PASS trivial (FIN (.bool false) ?_ () ?_ [] ?_))))
          · as_aux_lemma => kernel_rfl
          · (try simp [usedB] at *); simp_all [RV, actOk, noReq, reqEq, allKeep, usedB, List.length_pos_iff]
          · rfl
        · -- a.n != 0 = false
          have h4 := bh4
          have h4 := bneF h4
          refine RUN0 4 [24, 25, 26, 27, 28, 29] [(1, .p 0 0), (24, B false), (28, B (a.kind != 4))] ?_ rfl ?_
          · as_aux_lemma => kernel_rfl
          refine SPLIT (d := 28) (a.kind != 4) ?_ (fun bh5 => ?_) (fun bh5 => ?_)
          · as_aux_lemma => kernel_rfl
          · -- a.kind != 4 = true
            have h5 := bh5
            have h5 := bne_iff_ne.1 h5
            refine RUN0 6 [] [(1, .p 0 0), (34, B (decide ((a.keep.length : Int) > 0)))] ?_ rfl ?_
            · as_aux_lemma => kernel_rfl
            refine ENDOPS (NEXT (IF (decide ((a.keep.length : Int) > 0)) ?_ (fun bh6 => ?_) (fun bh6 => ?_)))
            · as_aux_lemma => kernel_rfl
            · -- decide ((a.keep.length : Int) > 0) = true
              have h6 := bh6
              have h6 := of_decide_eq_true h6
              refine SEQ (REGION [0] rfl (RUN0 1 [] [(2, B false)] ?_ rfl ?_))
              · as_aux_lemma => kernel_rfl
              refine ENDOPS (NEXT (RET (PASS trivial (FIN (.bool false) ?_ () ?_ [] ?_))))
              · as_aux_lemma => kernel_rfl
              · (try simp [usedB] at *); simp_all [RV, actOk, noReq, reqEq, allKeep, usedB, List.length_pos_iff]
              · rfl
            · -- decide ((a.keep.length : Int) > 0) = false
              have h6 := bh6
              have h6 := of_decide_eq_false h6
              refine SKIP (NEXT (SEQ (SEQ (REGION [0, 1] rfl (RUN0 2 [] [(1, .p 0 0), (36, I a.kind)] ?_ rfl ?_)))))
              · as_aux_lemma => kernel_rfl
              refine ENDOPS (NEXT (BLOCK (SEQ (REGION [0, 1] rfl (RUN0 2 [] [(1, .p 0 0), (36, I a.kind), (37, B (a.kind == 1))] ?_ rfl ?_)))))
              · as_aux_lemma => kernel_rfl
              refine ENDOPS (NEXT (IF (a.kind == 1) ?_ (fun bh7 => ?_) (fun bh7 => ?_)))
              · as_aux_lemma => kernel_rfl
              · -- a.kind == 1 = true
                have h7 := bh7
                have h7 := eq_of_beq h7
                refine SEQ (REGION [0, 1, 2, 3] rfl (RUN0 2 [2, 3] [(40, .v (.agg #[vi a.req.kind, vi a.req.id, vi a.req.cabin, vi a.req.from', vi a.req.size, vi a.req.tier]))] ?_ rfl ?_))
                · as_aux_lemma => kernel_rfl
                refine OPC (CALL 35 #[.agg #[vi a.req.kind, vi a.req.id, vi a.req.cabin, vi a.req.from', vi a.req.size, vi a.req.tier]] (some 41) ?_ [] [] _ rfl (RV (.bool (reqOk a.req))) (fun w hw => iReqOk_c w a.req) (by rintro _ ⟨⟩; exact Nat.le_of_ble_eq_true rfl) ?_)
                · as_aux_lemma => kernel_rfl
                rintro ⟨⟩
                refine RUN0 1 [] [(2, B (reqOk a.req))] ?_ rfl ?_
                · as_aux_lemma => kernel_rfl
                refine ENDOPS (NEXT (RET (OUTR (PASS trivial (FIN (.bool (reqOk a.req)) ?_ () ?_ [] ?_)))))
                · as_aux_lemma => kernel_rfl
                · (try simp [usedB] at *); simp_all [RV, actOk, noReq, reqEq, allKeep, usedB, List.length_pos_iff]
                · rfl
              · -- a.kind == 1 = false
                have h7 := bh7
                have h7 := ne_of_beq_false h7
                refine SEQ (REGION [0, 1] rfl (RUN0 2 [] [(1, .p 0 0), (36, I a.kind), (42, B (a.kind == 2))] ?_ rfl ?_))
                · as_aux_lemma => kernel_rfl
                refine ENDOPS (NEXT (IF (a.kind == 2) ?_ (fun bh8 => ?_) (fun bh8 => ?_)))
                · as_aux_lemma => kernel_rfl
                · -- a.kind == 2 = true
                  have h8 := bh8
                  have h8 := eq_of_beq h8
                  refine SEQ (REGION [0] rfl (RUN0 1 [] [(2, B true)] ?_ rfl ?_))
                  · as_aux_lemma => kernel_rfl
                  refine ENDOPS (NEXT (RET (OUTR (PASS trivial (FIN (.bool true) ?_ () ?_ [] ?_)))))
                  · as_aux_lemma => kernel_rfl
                  · (try simp [usedB] at *); simp_all [RV, actOk, noReq, reqEq, allKeep, usedB, List.length_pos_iff]
                  · rfl
                · -- a.kind == 2 = false
                  have h8 := bh8
                  have h8 := ne_of_beq_false h8
                  refine SEQ (REGION [0, 1] rfl (RUN0 2 [] [(1, .p 0 0), (36, I a.kind), (44, B (a.kind == 3))] ?_ rfl ?_))
                  · as_aux_lemma => kernel_rfl
                  refine ENDOPS (NEXT (IF (a.kind == 3) ?_ (fun bh9 => ?_) (fun bh9 => ?_)))
                  · as_aux_lemma => kernel_rfl
                  · -- a.kind == 3 = true
                    have h9 := bh9
                    have h9 := eq_of_beq h9
                    refine SEQ (REGION [0, 1, 2, 3] rfl (RUN0 2 [2, 3] [(47, I a.n)] ?_ rfl ?_))
                    · as_aux_lemma => kernel_rfl
                    refine OPC (CALL 26 #[vi a.n, vi 0, vi 9999] (some 48) ?_ [] [] _ rfl (RV (.bool (inB a.n 0 9999))) (fun w hw => within_c w a.n 0 9999) (by rintro _ ⟨⟩; exact Nat.le_of_ble_eq_true rfl) ?_)
                    · as_aux_lemma => kernel_rfl
                    rintro ⟨⟩
                    refine RUN0 1 [] [(2, B (inB a.n 0 9999))] ?_ rfl ?_
                    · as_aux_lemma => kernel_rfl
                    refine ENDOPS (NEXT (RET (OUTR (PASS trivial (FIN (.bool (inB a.n 0 9999)) ?_ () ?_ [] ?_)))))
                    · as_aux_lemma => kernel_rfl
                    · (try simp [usedB] at *); simp_all [RV, actOk, noReq, reqEq, allKeep, usedB, List.length_pos_iff]
                    · rfl
                  · -- a.kind == 3 = false
                    have h9 := bh9
                    have h9 := ne_of_beq_false h9
                    refine SEQ (REGION [0, 1] rfl (RUN0 2 [] [(1, .p 0 0), (49, B (a.kind == 4))] ?_ rfl ?_))
                    · as_aux_lemma => kernel_rfl
                    refine ENDOPS (NEXT (IF (a.kind == 4) ?_ (fun bh10 => ?_) (fun bh10 => ?_)))
                    · as_aux_lemma => kernel_rfl
                    · -- a.kind == 4 = true
                      have h10 := bh10
                      have h10 := eq_of_beq h10
                      refine SEQ (SEQ (REGION [0, 1, 2, 3] rfl (RUN0 4 [] [(1, .p 0 0), (52, .v (.slice a_keep_a a.keep.length a_keep_c)), (53, I (a.keep.length : Int)), (54, I 0)] ?_ rfl ?_)))
                      · as_aux_lemma => kernel_rfl
                      refine ENDOPS (NEXT (BLOCK (LOOP (ι := Nat × (List Int)) (fun j => [(1, .p 0 0), (52, .v (.slice a_keep_a a.keep.length a_keep_c)), (53, I (a.keep.length : Int)), (54, I (j.1 : Int))]) (fun j => [(43, [vi a.kind, vi a.req.kind, vi a.req.id, vi a.req.cabin, vi a.req.from', vi a.req.size, vi a.req.tier, vi a.n, .slice a_keep_a a.keep.length a_keep_c])]) (fun j => []) (fun j => j.1 + j.2.length = a.keep.length ∧ a.keep.drop j.1 = j.2 ∧ allKeep a.keep = allKeep j.2) (fun j => j.2.length) (0, a.keep) [1, 52, 53, 54] ⟨by simp, rfl, rfl⟩ ?_ rfl rfl ?_)))
                      · as_aux_lemma => kernel_rfl
                      rintro ⟨k, ys⟩ ⟨hk, hd, hv0⟩
                      dsimp only at hk hd hv0
                      refine SEQ (REGION [0] rfl (RUN0 1 [] [(1, .p 0 0), (52, .v (.slice a_keep_a a.keep.length a_keep_c)), (53, I (a.keep.length : Int)), (54, I (k : Int)), (55, B (decide ((k : Int) < (a.keep.length : Int))))] ?_ rfl ?_))
                      · as_aux_lemma => kernel_rfl
                      refine ENDOPS (NEXT (SEQ (IF (decide ((k : Int) < (a.keep.length : Int))) ?_ (fun bh11 => ?_) (fun bh11 => ?_))))
                      · as_aux_lemma => kernel_rfl
                      · -- decide ((k : Int) < (a.keep.length : Int)) = true
                        have h11 := bh11
                        have h11 := of_decide_eq_true h11
                        obtain ⟨y12, ys13, rfl, hx_y12, hd_y12, hl_y12⟩ := drop_cons hd hk (by omega)
                        refine SKIP (NEXT (SEQ (BLOCK (SEQ (REGION [0, 1, 2] rfl (OPC (INDEX 24 (.tmp 52) (.tmp 54) 56 0 ?_ (Nat.le_of_ble_eq_true rfl) a_keep_a a.keep.length a_keep_c .i64 (k : Int) 3 1 ?_ ?_ ?_ ?_ (Rd.some ha_keep (by omega)) (by omega) (by omega) ?_)))))))
                        · as_aux_lemma => kernel_rfl
                        · as_aux_lemma => kernel_rfl
                        · as_aux_lemma => kernel_rfl
                        · as_aux_lemma => kernel_rfl
                        · as_aux_lemma => kernel_rfl
                        refine OPC (LOADE 3 (.tmp 56) 57 3 ?_ (Nat.le_of_ble_eq_true rfl) a_keep_a (k * 1) 0 [vi y12] (vi y12) ?_ (fun w hw => (ha_keep.fr hw.fr).flat hx_y12) ?_ ?_)
                        · as_aux_lemma => kernel_rfl
                        · as_aux_lemma => kernel_rfl
                        · as_aux_lemma => kernel_rfl
                        refine RUN0 1 [] [(1, .p 0 0), (4, I y12), (52, .v (.slice a_keep_a a.keep.length a_keep_c)), (53, I (a.keep.length : Int)), (54, I (k : Int))] ?_ rfl ?_
                        · as_aux_lemma => kernel_rfl
                        refine ENDOPS (NEXT (SEQ (REGION [0, 1, 2] rfl (RUN0 1 [1, 2] [(1, .p 0 0), (52, .v (.slice a_keep_a a.keep.length a_keep_c)), (53, I (a.keep.length : Int)), (54, I (k : Int)), (58, I y12)] ?_ rfl ?_))))
                        · as_aux_lemma => kernel_rfl
                        refine OPC (CALL 26 #[vi y12, vi 0, vi 20000] (some 59) ?_ [] [] _ rfl (RV (.bool (inB y12 0 20000))) (fun w hw => within_c w y12 0 20000) (by rintro _ ⟨⟩; exact Nat.le_of_ble_eq_true rfl) ?_)
                        · as_aux_lemma => kernel_rfl
                        rintro ⟨⟩
                        refine RUN0 1 [] [(1, .p 0 0), (52, .v (.slice a_keep_a a.keep.length a_keep_c)), (53, I (a.keep.length : Int)), (54, I (k : Int)), (60, B (!(inB y12 0 20000)))] ?_ rfl ?_
                        · as_aux_lemma => kernel_rfl
                        refine ENDOPS (NEXT (IF (!(inB y12 0 20000)) ?_ (fun bh14 => ?_) (fun bh14 => ?_)))
                        · as_aux_lemma => kernel_rfl
                        · -- !(inB y12 0 20000) = true
                          have h14 := bh14
                          have h14 := notT h14
                          refine SEQ (REGION [0] rfl (RUN0 1 [] [(2, B false)] ?_ rfl ?_))
                          · as_aux_lemma => kernel_rfl
                          refine ENDOPS (NEXT (RET (OUTR (PASS trivial (PASS trivial (OUTR (PASS trivial (OUTR (PASS trivial (FIN (.bool false) ?_ () ?_ [] ?_))))))))))
                          · as_aux_lemma => kernel_rfl
                          · (try simp [usedB] at *); simp_all [RV, actOk, noReq, reqEq, allKeep, usedB, List.length_pos_iff]
                          · rfl
                        · -- !(inB y12 0 20000) = false
                          have h14 := bh14
                          have h14 := notF h14
                          refine SKIP (OUTN (NEXT (REGION [0, 1] rfl (RUN0 1 [1] [(1, .p 0 0), (52, .v (.slice a_keep_a a.keep.length a_keep_c)), (53, I (a.keep.length : Int)), (61, I (wr ((k : Int) + 1)))] ?_ rfl ?_))))
                          · as_aux_lemma => kernel_rfl
                          refine CAST (d := 61) (vi (wr ((k : Int) + 1))) (vi ((k + 1 : Nat) : Int)) ?_ (vi_cast (by omega) (by omega)) ?_
                          · as_aux_lemma => kernel_rfl
                          refine RUN0 1 [] [(1, .p 0 0), (52, .v (.slice a_keep_a a.keep.length a_keep_c)), (53, I (a.keep.length : Int)), (54, I ((k + 1 : Nat) : Int))] ?_ rfl ?_
                          · as_aux_lemma => kernel_rfl
                          refine ENDOPS (BACK (k + 1, ys13) [1, 52, 53, 54] 1 [] _ ⟨hl_y12, hd_y12, hv0.trans (by simp [allKeep, *])⟩ (by simp) ?_ rfl rfl rfl)
                          · as_aux_lemma => kernel_rfl
                      · -- decide ((k : Int) < (a.keep.length : Int)) = false
                        have h11 := bh11
                        have h11 := of_decide_eq_false h11
                        obtain rfl := drop_nil hk (by omega)
                        refine EXIT (PASS trivial (PASS trivial (OUT (NEXT (SEQ (REGION [0, 1, 2, 3, 4] rfl (RUN0 5 [] [(2, B (decide ((a.keep.length : Int) ≤ 3)))] ?_ rfl ?_)))))))
                        · as_aux_lemma => kernel_rfl
                        refine ENDOPS (NEXT (RET (OUTR (PASS trivial (FIN (.bool (decide ((a.keep.length : Int) ≤ 3))) ?_ () ?_ [] ?_)))))
                        · as_aux_lemma => kernel_rfl
                        · (try simp [usedB] at *); simp_all [RV, actOk, noReq, reqEq, allKeep, usedB, List.length_pos_iff]
                        · rfl
                    · -- a.kind == 4 = false
                      have h10 := bh10
                      have h10 := ne_of_beq_false h10
                      refine SKIP (OUTN (NEXT (SEQ (REGION [0] rfl (RUN0 1 [] [(2, B false)] ?_ rfl ?_)))))
                      · as_aux_lemma => kernel_rfl
                      refine ENDOPS (NEXT (RET (FIN (.bool false) ?_ () ?_ [] ?_)))
                      · as_aux_lemma => kernel_rfl
                      · (try simp [usedB] at *); simp_all [RV, actOk, noReq, reqEq, allKeep, usedB, List.length_pos_iff]
                      · rfl
          · -- a.kind != 4 = false
            have h5 := bh5
            have h5 := bneF h5
            refine RUN0 6 [] [(1, .p 0 0), (34, B false)] ?_ rfl ?_
            · as_aux_lemma => kernel_rfl
            refine ENDOPS (NEXT (IFF ?_ ?_))
            · as_aux_lemma => kernel_rfl
            refine SKIP (NEXT (SEQ (SEQ (REGION [0, 1] rfl (RUN0 2 [] [(1, .p 0 0), (36, I a.kind)] ?_ rfl ?_)))))
            · as_aux_lemma => kernel_rfl
            refine ENDOPS (NEXT (BLOCK (SEQ (REGION [0, 1] rfl (RUN0 2 [] [(1, .p 0 0), (36, I a.kind), (37, B (a.kind == 1))] ?_ rfl ?_)))))
            · as_aux_lemma => kernel_rfl
            refine ENDOPS (NEXT (IF (a.kind == 1) ?_ (fun bh15 => ?_) (fun bh15 => ?_)))
            · as_aux_lemma => kernel_rfl
            · -- a.kind == 1 = true
              have h15 := bh15
              have h15 := eq_of_beq h15
              refine SEQ (REGION [0, 1, 2, 3] rfl (RUN0 2 [2, 3] [(40, .v (.agg #[vi a.req.kind, vi a.req.id, vi a.req.cabin, vi a.req.from', vi a.req.size, vi a.req.tier]))] ?_ rfl ?_))
              · as_aux_lemma => kernel_rfl
              refine OPC (CALL 35 #[.agg #[vi a.req.kind, vi a.req.id, vi a.req.cabin, vi a.req.from', vi a.req.size, vi a.req.tier]] (some 41) ?_ [] [] _ rfl (RV (.bool (reqOk a.req))) (fun w hw => iReqOk_c w a.req) (by rintro _ ⟨⟩; exact Nat.le_of_ble_eq_true rfl) ?_)
              · as_aux_lemma => kernel_rfl
              rintro ⟨⟩
              refine RUN0 1 [] [(2, B (reqOk a.req))] ?_ rfl ?_
              · as_aux_lemma => kernel_rfl
              refine ENDOPS (NEXT (RET (OUTR (PASS trivial (FIN (.bool (reqOk a.req)) ?_ () ?_ [] ?_)))))
              · as_aux_lemma => kernel_rfl
              · (try simp [usedB] at *); simp_all [RV, actOk, noReq, reqEq, allKeep, usedB, List.length_pos_iff]
              · rfl
            · -- a.kind == 1 = false
              have h15 := bh15
              have h15 := ne_of_beq_false h15
              refine SEQ (REGION [0, 1] rfl (RUN0 2 [] [(1, .p 0 0), (36, I a.kind), (42, B (a.kind == 2))] ?_ rfl ?_))
              · as_aux_lemma => kernel_rfl
              refine ENDOPS (NEXT (IF (a.kind == 2) ?_ (fun bh16 => ?_) (fun bh16 => ?_)))
              · as_aux_lemma => kernel_rfl
              · -- a.kind == 2 = true
                have h16 := bh16
                have h16 := eq_of_beq h16
                refine SEQ (REGION [0] rfl (RUN0 1 [] [(2, B true)] ?_ rfl ?_))
                · as_aux_lemma => kernel_rfl
                refine ENDOPS (NEXT (RET (OUTR (PASS trivial (FIN (.bool true) ?_ () ?_ [] ?_)))))
                · as_aux_lemma => kernel_rfl
                · (try simp [usedB] at *); simp_all [RV, actOk, noReq, reqEq, allKeep, usedB, List.length_pos_iff]
                · rfl
              · -- a.kind == 2 = false
                have h16 := bh16
                have h16 := ne_of_beq_false h16
                refine SEQ (REGION [0, 1] rfl (RUN0 2 [] [(1, .p 0 0), (36, I a.kind), (44, B (a.kind == 3))] ?_ rfl ?_))
                · as_aux_lemma => kernel_rfl
                refine ENDOPS (NEXT (IF (a.kind == 3) ?_ (fun bh17 => ?_) (fun bh17 => ?_)))
                · as_aux_lemma => kernel_rfl
                · -- a.kind == 3 = true
                  have h17 := bh17
                  have h17 := eq_of_beq h17
                  refine SEQ (REGION [0, 1, 2, 3] rfl (RUN0 2 [2, 3] [(47, I a.n)] ?_ rfl ?_))
                  · as_aux_lemma => kernel_rfl
                  refine OPC (CALL 26 #[vi a.n, vi 0, vi 9999] (some 48) ?_ [] [] _ rfl (RV (.bool (inB a.n 0 9999))) (fun w hw => within_c w a.n 0 9999) (by rintro _ ⟨⟩; exact Nat.le_of_ble_eq_true rfl) ?_)
                  · as_aux_lemma => kernel_rfl
                  rintro ⟨⟩
                  refine RUN0 1 [] [(2, B (inB a.n 0 9999))] ?_ rfl ?_
                  · as_aux_lemma => kernel_rfl
                  refine ENDOPS (NEXT (RET (OUTR (PASS trivial (FIN (.bool (inB a.n 0 9999)) ?_ () ?_ [] ?_)))))
                  · as_aux_lemma => kernel_rfl
                  · (try simp [usedB] at *); simp_all [RV, actOk, noReq, reqEq, allKeep, usedB, List.length_pos_iff]
                  · rfl
                · -- a.kind == 3 = false
                  have h17 := bh17
                  have h17 := ne_of_beq_false h17
                  refine SEQ (REGION [0, 1] rfl (RUN0 2 [] [(1, .p 0 0), (49, B (a.kind == 4))] ?_ rfl ?_))
                  · as_aux_lemma => kernel_rfl
                  refine ENDOPS (NEXT (IF (a.kind == 4) ?_ (fun bh18 => ?_) (fun bh18 => ?_)))
                  · as_aux_lemma => kernel_rfl
                  · -- a.kind == 4 = true
                    have h18 := bh18
                    have h18 := eq_of_beq h18
                    refine SEQ (SEQ (REGION [0, 1, 2, 3] rfl (RUN0 4 [] [(1, .p 0 0), (52, .v (.slice a_keep_a a.keep.length a_keep_c)), (53, I (a.keep.length : Int)), (54, I 0)] ?_ rfl ?_)))
                    · as_aux_lemma => kernel_rfl
                    refine ENDOPS (NEXT (BLOCK (LOOP (ι := Nat × (List Int)) (fun j => [(1, .p 0 0), (52, .v (.slice a_keep_a a.keep.length a_keep_c)), (53, I (a.keep.length : Int)), (54, I (j.1 : Int))]) (fun j => [(43, [vi a.kind, vi a.req.kind, vi a.req.id, vi a.req.cabin, vi a.req.from', vi a.req.size, vi a.req.tier, vi a.n, .slice a_keep_a a.keep.length a_keep_c])]) (fun j => []) (fun j => j.1 + j.2.length = a.keep.length ∧ a.keep.drop j.1 = j.2 ∧ allKeep a.keep = allKeep j.2) (fun j => j.2.length) (0, a.keep) [1, 52, 53, 54] ⟨by simp, rfl, rfl⟩ ?_ rfl rfl ?_)))
                    · as_aux_lemma => kernel_rfl
                    rintro ⟨k, ys⟩ ⟨hk, hd, hv0⟩
                    dsimp only at hk hd hv0
                    refine SEQ (REGION [0] rfl (RUN0 1 [] [(1, .p 0 0), (52, .v (.slice a_keep_a a.keep.length a_keep_c)), (53, I (a.keep.length : Int)), (54, I (k : Int)), (55, B (decide ((k : Int) < (a.keep.length : Int))))] ?_ rfl ?_))
                    · as_aux_lemma => kernel_rfl
                    refine ENDOPS (NEXT (SEQ (IF (decide ((k : Int) < (a.keep.length : Int))) ?_ (fun bh19 => ?_) (fun bh19 => ?_))))
                    · as_aux_lemma => kernel_rfl
                    · -- decide ((k : Int) < (a.keep.length : Int)) = true
                      have h19 := bh19
                      have h19 := of_decide_eq_true h19
                      obtain ⟨y20, ys21, rfl, hx_y20, hd_y20, hl_y20⟩ := drop_cons hd hk (by omega)
                      refine SKIP (NEXT (SEQ (BLOCK (SEQ (REGION [0, 1, 2] rfl (OPC (INDEX 24 (.tmp 52) (.tmp 54) 56 0 ?_ (Nat.le_of_ble_eq_true rfl) a_keep_a a.keep.length a_keep_c .i64 (k : Int) 3 1 ?_ ?_ ?_ ?_ (Rd.some ha_keep (by omega)) (by omega) (by omega) ?_)))))))
                      · as_aux_lemma => kernel_rfl
                      · as_aux_lemma => kernel_rfl
                      · as_aux_lemma => kernel_rfl
                      · as_aux_lemma => kernel_rfl
                      · as_aux_lemma => kernel_rfl
                      refine OPC (LOADE 3 (.tmp 56) 57 3 ?_ (Nat.le_of_ble_eq_true rfl) a_keep_a (k * 1) 0 [vi y20] (vi y20) ?_ (fun w hw => (ha_keep.fr hw.fr).flat hx_y20) ?_ ?_)
                      · as_aux_lemma => kernel_rfl
                      · as_aux_lemma => kernel_rfl
                      · as_aux_lemma => kernel_rfl
                      refine RUN0 1 [] [(1, .p 0 0), (4, I y20), (52, .v (.slice a_keep_a a.keep.length a_keep_c)), (53, I (a.keep.length : Int)), (54, I (k : Int))] ?_ rfl ?_
                      · as_aux_lemma => kernel_rfl
                      refine ENDOPS (NEXT (SEQ (REGION [0, 1, 2] rfl (RUN0 1 [1, 2] [(1, .p 0 0), (52, .v (.slice a_keep_a a.keep.length a_keep_c)), (53, I (a.keep.length : Int)), (54, I (k : Int)), (58, I y20)] ?_ rfl ?_))))
                      · as_aux_lemma => kernel_rfl
                      refine OPC (CALL 26 #[vi y20, vi 0, vi 20000] (some 59) ?_ [] [] _ rfl (RV (.bool (inB y20 0 20000))) (fun w hw => within_c w y20 0 20000) (by rintro _ ⟨⟩; exact Nat.le_of_ble_eq_true rfl) ?_)
                      · as_aux_lemma => kernel_rfl
                      rintro ⟨⟩
                      refine RUN0 1 [] [(1, .p 0 0), (52, .v (.slice a_keep_a a.keep.length a_keep_c)), (53, I (a.keep.length : Int)), (54, I (k : Int)), (60, B (!(inB y20 0 20000)))] ?_ rfl ?_
                      · as_aux_lemma => kernel_rfl
                      refine ENDOPS (NEXT (IF (!(inB y20 0 20000)) ?_ (fun bh22 => ?_) (fun bh22 => ?_)))
                      · as_aux_lemma => kernel_rfl
                      · -- !(inB y20 0 20000) = true
                        have h22 := bh22
                        have h22 := notT h22
                        refine SEQ (REGION [0] rfl (RUN0 1 [] [(2, B false)] ?_ rfl ?_))
                        · as_aux_lemma => kernel_rfl
                        refine ENDOPS (NEXT (RET (OUTR (PASS trivial (PASS trivial (OUTR (PASS trivial (OUTR (PASS trivial (FIN (.bool false) ?_ () ?_ [] ?_))))))))))
                        · as_aux_lemma => kernel_rfl
                        · (try simp [usedB] at *); simp_all [RV, actOk, noReq, reqEq, allKeep, usedB, List.length_pos_iff]
                        · rfl
                      · -- !(inB y20 0 20000) = false
                        have h22 := bh22
                        have h22 := notF h22
                        refine SKIP (OUTN (NEXT (REGION [0, 1] rfl (RUN0 1 [1] [(1, .p 0 0), (52, .v (.slice a_keep_a a.keep.length a_keep_c)), (53, I (a.keep.length : Int)), (61, I (wr ((k : Int) + 1)))] ?_ rfl ?_))))
                        · as_aux_lemma => kernel_rfl
                        refine CAST (d := 61) (vi (wr ((k : Int) + 1))) (vi ((k + 1 : Nat) : Int)) ?_ (vi_cast (by omega) (by omega)) ?_
                        · as_aux_lemma => kernel_rfl
                        refine RUN0 1 [] [(1, .p 0 0), (52, .v (.slice a_keep_a a.keep.length a_keep_c)), (53, I (a.keep.length : Int)), (54, I ((k + 1 : Nat) : Int))] ?_ rfl ?_
                        · as_aux_lemma => kernel_rfl
                        refine ENDOPS (BACK (k + 1, ys21) [1, 52, 53, 54] 1 [] _ ⟨hl_y20, hd_y20, hv0.trans (by simp [allKeep, *])⟩ (by simp) ?_ rfl rfl rfl)
                        · as_aux_lemma => kernel_rfl
                    · -- decide ((k : Int) < (a.keep.length : Int)) = false
                      have h19 := bh19
                      have h19 := of_decide_eq_false h19
                      obtain rfl := drop_nil hk (by omega)
                      refine EXIT (PASS trivial (PASS trivial (OUT (NEXT (SEQ (REGION [0, 1, 2, 3, 4] rfl (RUN0 5 [] [(2, B (decide ((a.keep.length : Int) ≤ 3)))] ?_ rfl ?_)))))))
                      · as_aux_lemma => kernel_rfl
                      refine ENDOPS (NEXT (RET (OUTR (PASS trivial (FIN (.bool (decide ((a.keep.length : Int) ≤ 3))) ?_ () ?_ [] ?_)))))
                      · as_aux_lemma => kernel_rfl
                      · (try simp [usedB] at *); simp_all [RV, actOk, noReq, reqEq, allKeep, usedB, List.length_pos_iff]
                      · rfl
                  · -- a.kind == 4 = false
                    have h18 := bh18
                    have h18 := ne_of_beq_false h18
                    refine SKIP (OUTN (NEXT (SEQ (REGION [0] rfl (RUN0 1 [] [(2, B false)] ?_ rfl ?_)))))
                    · as_aux_lemma => kernel_rfl
                    refine ENDOPS (NEXT (RET (FIN (.bool false) ?_ () ?_ [] ?_)))
                    · as_aux_lemma => kernel_rfl
                    · (try simp [usedB] at *); simp_all [RV, actOk, noReq, reqEq, allKeep, usedB, List.length_pos_iff]
                    · rfl
      · -- a.kind != 3 = false
        have h3 := bh3
        have h3 := bneF h3
        refine RUN0 10 [24, 25, 26, 27, 28, 29] [(1, .p 0 0), (24, B false), (28, B (a.kind != 4))] ?_ rfl ?_
        · as_aux_lemma => kernel_rfl
        refine SPLIT (d := 28) (a.kind != 4) ?_ (fun bh23 => ?_) (fun bh23 => ?_)
        · as_aux_lemma => kernel_rfl
        · -- a.kind != 4 = true
          have h23 := bh23
          have h23 := bne_iff_ne.1 h23
          refine RUN0 6 [] [(1, .p 0 0), (34, B (decide ((a.keep.length : Int) > 0)))] ?_ rfl ?_
          · as_aux_lemma => kernel_rfl
          refine ENDOPS (NEXT (IF (decide ((a.keep.length : Int) > 0)) ?_ (fun bh24 => ?_) (fun bh24 => ?_)))
          · as_aux_lemma => kernel_rfl
          · -- decide ((a.keep.length : Int) > 0) = true
            have h24 := bh24
            have h24 := of_decide_eq_true h24
            refine SEQ (REGION [0] rfl (RUN0 1 [] [(2, B false)] ?_ rfl ?_))
            · as_aux_lemma => kernel_rfl
            refine ENDOPS (NEXT (RET (PASS trivial (FIN (.bool false) ?_ () ?_ [] ?_))))
            · as_aux_lemma => kernel_rfl
            · (try simp [usedB] at *); simp_all [RV, actOk, noReq, reqEq, allKeep, usedB, List.length_pos_iff]
            · rfl
          · -- decide ((a.keep.length : Int) > 0) = false
            have h24 := bh24
            have h24 := of_decide_eq_false h24
            refine SKIP (NEXT (SEQ (SEQ (REGION [0, 1] rfl (RUN0 2 [] [(1, .p 0 0), (36, I a.kind)] ?_ rfl ?_)))))
            · as_aux_lemma => kernel_rfl
            refine ENDOPS (NEXT (BLOCK (SEQ (REGION [0, 1] rfl (RUN0 2 [] [(1, .p 0 0), (36, I a.kind), (37, B (a.kind == 1))] ?_ rfl ?_)))))
            · as_aux_lemma => kernel_rfl
            refine ENDOPS (NEXT (IF (a.kind == 1) ?_ (fun bh25 => ?_) (fun bh25 => ?_)))
            · as_aux_lemma => kernel_rfl
            · -- a.kind == 1 = true
              have h25 := bh25
              have h25 := eq_of_beq h25
              refine SEQ (REGION [0, 1, 2, 3] rfl (RUN0 2 [2, 3] [(40, .v (.agg #[vi a.req.kind, vi a.req.id, vi a.req.cabin, vi a.req.from', vi a.req.size, vi a.req.tier]))] ?_ rfl ?_))
              · as_aux_lemma => kernel_rfl
              refine OPC (CALL 35 #[.agg #[vi a.req.kind, vi a.req.id, vi a.req.cabin, vi a.req.from', vi a.req.size, vi a.req.tier]] (some 41) ?_ [] [] _ rfl (RV (.bool (reqOk a.req))) (fun w hw => iReqOk_c w a.req) (by rintro _ ⟨⟩; exact Nat.le_of_ble_eq_true rfl) ?_)
              · as_aux_lemma => kernel_rfl
              rintro ⟨⟩
              refine RUN0 1 [] [(2, B (reqOk a.req))] ?_ rfl ?_
              · as_aux_lemma => kernel_rfl
              refine ENDOPS (NEXT (RET (OUTR (PASS trivial (FIN (.bool (reqOk a.req)) ?_ () ?_ [] ?_)))))
              · as_aux_lemma => kernel_rfl
              · (try simp [usedB] at *); simp_all [RV, actOk, noReq, reqEq, allKeep, usedB, List.length_pos_iff]
              · rfl
            · -- a.kind == 1 = false
              have h25 := bh25
              have h25 := ne_of_beq_false h25
              refine SEQ (REGION [0, 1] rfl (RUN0 2 [] [(1, .p 0 0), (36, I a.kind), (42, B (a.kind == 2))] ?_ rfl ?_))
              · as_aux_lemma => kernel_rfl
              refine ENDOPS (NEXT (IF (a.kind == 2) ?_ (fun bh26 => ?_) (fun bh26 => ?_)))
              · as_aux_lemma => kernel_rfl
              · -- a.kind == 2 = true
                have h26 := bh26
                have h26 := eq_of_beq h26
                refine SEQ (REGION [0] rfl (RUN0 1 [] [(2, B true)] ?_ rfl ?_))
                · as_aux_lemma => kernel_rfl
                refine ENDOPS (NEXT (RET (OUTR (PASS trivial (FIN (.bool true) ?_ () ?_ [] ?_)))))
                · as_aux_lemma => kernel_rfl
                · (try simp [usedB] at *); simp_all [RV, actOk, noReq, reqEq, allKeep, usedB, List.length_pos_iff]
                · rfl
              · -- a.kind == 2 = false
                have h26 := bh26
                have h26 := ne_of_beq_false h26
                refine SEQ (REGION [0, 1] rfl (RUN0 2 [] [(1, .p 0 0), (36, I a.kind), (44, B (a.kind == 3))] ?_ rfl ?_))
                · as_aux_lemma => kernel_rfl
                refine ENDOPS (NEXT (IF (a.kind == 3) ?_ (fun bh27 => ?_) (fun bh27 => ?_)))
                · as_aux_lemma => kernel_rfl
                · -- a.kind == 3 = true
                  have h27 := bh27
                  have h27 := eq_of_beq h27
                  refine SEQ (REGION [0, 1, 2, 3] rfl (RUN0 2 [2, 3] [(47, I a.n)] ?_ rfl ?_))
                  · as_aux_lemma => kernel_rfl
                  refine OPC (CALL 26 #[vi a.n, vi 0, vi 9999] (some 48) ?_ [] [] _ rfl (RV (.bool (inB a.n 0 9999))) (fun w hw => within_c w a.n 0 9999) (by rintro _ ⟨⟩; exact Nat.le_of_ble_eq_true rfl) ?_)
                  · as_aux_lemma => kernel_rfl
                  rintro ⟨⟩
                  refine RUN0 1 [] [(2, B (inB a.n 0 9999))] ?_ rfl ?_
                  · as_aux_lemma => kernel_rfl
                  refine ENDOPS (NEXT (RET (OUTR (PASS trivial (FIN (.bool (inB a.n 0 9999)) ?_ () ?_ [] ?_)))))
                  · as_aux_lemma => kernel_rfl
                  · (try simp [usedB] at *); simp_all [RV, actOk, noReq, reqEq, allKeep, usedB, List.length_pos_iff]
                  · rfl
                · -- a.kind == 3 = false
                  have h27 := bh27
                  have h27 := ne_of_beq_false h27
                  refine SEQ (REGION [0, 1] rfl (RUN0 2 [] [(1, .p 0 0), (49, B (a.kind == 4))] ?_ rfl ?_))
                  · as_aux_lemma => kernel_rfl
                  refine ENDOPS (NEXT (IF (a.kind == 4) ?_ (fun bh28 => ?_) (fun bh28 => ?_)))
                  · as_aux_lemma => kernel_rfl
                  · -- a.kind == 4 = true
                    have h28 := bh28
                    have h28 := eq_of_beq h28
                    refine SEQ (SEQ (REGION [0, 1, 2, 3] rfl (RUN0 4 [] [(1, .p 0 0), (52, .v (.slice a_keep_a a.keep.length a_keep_c)), (53, I (a.keep.length : Int)), (54, I 0)] ?_ rfl ?_)))
                    · as_aux_lemma => kernel_rfl
                    refine ENDOPS (NEXT (BLOCK (LOOP (ι := Nat × (List Int)) (fun j => [(1, .p 0 0), (52, .v (.slice a_keep_a a.keep.length a_keep_c)), (53, I (a.keep.length : Int)), (54, I (j.1 : Int))]) (fun j => [(43, [vi a.kind, vi a.req.kind, vi a.req.id, vi a.req.cabin, vi a.req.from', vi a.req.size, vi a.req.tier, vi a.n, .slice a_keep_a a.keep.length a_keep_c])]) (fun j => []) (fun j => j.1 + j.2.length = a.keep.length ∧ a.keep.drop j.1 = j.2 ∧ allKeep a.keep = allKeep j.2) (fun j => j.2.length) (0, a.keep) [1, 52, 53, 54] ⟨by simp, rfl, rfl⟩ ?_ rfl rfl ?_)))
                    · as_aux_lemma => kernel_rfl
                    rintro ⟨k, ys⟩ ⟨hk, hd, hv0⟩
                    dsimp only at hk hd hv0
                    refine SEQ (REGION [0] rfl (RUN0 1 [] [(1, .p 0 0), (52, .v (.slice a_keep_a a.keep.length a_keep_c)), (53, I (a.keep.length : Int)), (54, I (k : Int)), (55, B (decide ((k : Int) < (a.keep.length : Int))))] ?_ rfl ?_))
                    · as_aux_lemma => kernel_rfl
                    refine ENDOPS (NEXT (SEQ (IF (decide ((k : Int) < (a.keep.length : Int))) ?_ (fun bh29 => ?_) (fun bh29 => ?_))))
                    · as_aux_lemma => kernel_rfl
                    · -- decide ((k : Int) < (a.keep.length : Int)) = true
                      have h29 := bh29
                      have h29 := of_decide_eq_true h29
                      obtain ⟨y30, ys31, rfl, hx_y30, hd_y30, hl_y30⟩ := drop_cons hd hk (by omega)
                      refine SKIP (NEXT (SEQ (BLOCK (SEQ (REGION [0, 1, 2] rfl (OPC (INDEX 24 (.tmp 52) (.tmp 54) 56 0 ?_ (Nat.le_of_ble_eq_true rfl) a_keep_a a.keep.length a_keep_c .i64 (k : Int) 3 1 ?_ ?_ ?_ ?_ (Rd.some ha_keep (by omega)) (by omega) (by omega) ?_)))))))
                      · as_aux_lemma => kernel_rfl
                      · as_aux_lemma => kernel_rfl
                      · as_aux_lemma => kernel_rfl
                      · as_aux_lemma => kernel_rfl
                      · as_aux_lemma => kernel_rfl
                      refine OPC (LOADE 3 (.tmp 56) 57 3 ?_ (Nat.le_of_ble_eq_true rfl) a_keep_a (k * 1) 0 [vi y30] (vi y30) ?_ (fun w hw => (ha_keep.fr hw.fr).flat hx_y30) ?_ ?_)
                      · as_aux_lemma => kernel_rfl
                      · as_aux_lemma => kernel_rfl
                      · as_aux_lemma => kernel_rfl
                      refine RUN0 1 [] [(1, .p 0 0), (4, I y30), (52, .v (.slice a_keep_a a.keep.length a_keep_c)), (53, I (a.keep.length : Int)), (54, I (k : Int))] ?_ rfl ?_
                      · as_aux_lemma => kernel_rfl
                      refine ENDOPS (NEXT (SEQ (REGION [0, 1, 2] rfl (RUN0 1 [1, 2] [(1, .p 0 0), (52, .v (.slice a_keep_a a.keep.length a_keep_c)), (53, I (a.keep.length : Int)), (54, I (k : Int)), (58, I y30)] ?_ rfl ?_))))
                      · as_aux_lemma => kernel_rfl
                      refine OPC (CALL 26 #[vi y30, vi 0, vi 20000] (some 59) ?_ [] [] _ rfl (RV (.bool (inB y30 0 20000))) (fun w hw => within_c w y30 0 20000) (by rintro _ ⟨⟩; exact Nat.le_of_ble_eq_true rfl) ?_)
                      · as_aux_lemma => kernel_rfl
                      rintro ⟨⟩
                      refine RUN0 1 [] [(1, .p 0 0), (52, .v (.slice a_keep_a a.keep.length a_keep_c)), (53, I (a.keep.length : Int)), (54, I (k : Int)), (60, B (!(inB y30 0 20000)))] ?_ rfl ?_
                      · as_aux_lemma => kernel_rfl
                      refine ENDOPS (NEXT (IF (!(inB y30 0 20000)) ?_ (fun bh32 => ?_) (fun bh32 => ?_)))
                      · as_aux_lemma => kernel_rfl
                      · -- !(inB y30 0 20000) = true
                        have h32 := bh32
                        have h32 := notT h32
                        refine SEQ (REGION [0] rfl (RUN0 1 [] [(2, B false)] ?_ rfl ?_))
                        · as_aux_lemma => kernel_rfl
                        refine ENDOPS (NEXT (RET (OUTR (PASS trivial (PASS trivial (OUTR (PASS trivial (OUTR (PASS trivial (FIN (.bool false) ?_ () ?_ [] ?_))))))))))
                        · as_aux_lemma => kernel_rfl
                        · (try simp [usedB] at *); simp_all [RV, actOk, noReq, reqEq, allKeep, usedB, List.length_pos_iff]
                        · rfl
                      · -- !(inB y30 0 20000) = false
                        have h32 := bh32
                        have h32 := notF h32
                        refine SKIP (OUTN (NEXT (REGION [0, 1] rfl (RUN0 1 [1] [(1, .p 0 0), (52, .v (.slice a_keep_a a.keep.length a_keep_c)), (53, I (a.keep.length : Int)), (61, I (wr ((k : Int) + 1)))] ?_ rfl ?_))))
                        · as_aux_lemma => kernel_rfl
                        refine CAST (d := 61) (vi (wr ((k : Int) + 1))) (vi ((k + 1 : Nat) : Int)) ?_ (vi_cast (by omega) (by omega)) ?_
                        · as_aux_lemma => kernel_rfl
                        refine RUN0 1 [] [(1, .p 0 0), (52, .v (.slice a_keep_a a.keep.length a_keep_c)), (53, I (a.keep.length : Int)), (54, I ((k + 1 : Nat) : Int))] ?_ rfl ?_
                        · as_aux_lemma => kernel_rfl
                        refine ENDOPS (BACK (k + 1, ys31) [1, 52, 53, 54] 1 [] _ ⟨hl_y30, hd_y30, hv0.trans (by simp [allKeep, *])⟩ (by simp) ?_ rfl rfl rfl)
                        · as_aux_lemma => kernel_rfl
                    · -- decide ((k : Int) < (a.keep.length : Int)) = false
                      have h29 := bh29
                      have h29 := of_decide_eq_false h29
                      obtain rfl := drop_nil hk (by omega)
                      refine EXIT (PASS trivial (PASS trivial (OUT (NEXT (SEQ (REGION [0, 1, 2, 3, 4] rfl (RUN0 5 [] [(2, B (decide ((a.keep.length : Int) ≤ 3)))] ?_ rfl ?_)))))))
                      · as_aux_lemma => kernel_rfl
                      refine ENDOPS (NEXT (RET (OUTR (PASS trivial (FIN (.bool (decide ((a.keep.length : Int) ≤ 3))) ?_ () ?_ [] ?_)))))
                      · as_aux_lemma => kernel_rfl
                      · (try simp [usedB] at *); simp_all [RV, actOk, noReq, reqEq, allKeep, usedB, List.length_pos_iff]
                      · rfl
                  · -- a.kind == 4 = false
                    have h28 := bh28
                    have h28 := ne_of_beq_false h28
                    refine SKIP (OUTN (NEXT (SEQ (REGION [0] rfl (RUN0 1 [] [(2, B false)] ?_ rfl ?_)))))
                    · as_aux_lemma => kernel_rfl
                    refine ENDOPS (NEXT (RET (FIN (.bool false) ?_ () ?_ [] ?_)))
                    · as_aux_lemma => kernel_rfl
                    · (try simp [usedB] at *); simp_all [RV, actOk, noReq, reqEq, allKeep, usedB, List.length_pos_iff]
                    · rfl
        · -- a.kind != 4 = false
          have h23 := bh23
          have h23 := bneF h23
          refine RUN0 6 [] [(1, .p 0 0), (34, B false)] ?_ rfl ?_
          · as_aux_lemma => kernel_rfl
          refine ENDOPS (NEXT (IFF ?_ ?_))
          · as_aux_lemma => kernel_rfl
          refine SKIP (NEXT (SEQ (SEQ (REGION [0, 1] rfl (RUN0 2 [] [(1, .p 0 0), (36, I a.kind)] ?_ rfl ?_)))))
          · as_aux_lemma => kernel_rfl
          refine ENDOPS (NEXT (BLOCK (SEQ (REGION [0, 1] rfl (RUN0 2 [] [(1, .p 0 0), (36, I a.kind), (37, B (a.kind == 1))] ?_ rfl ?_)))))
          · as_aux_lemma => kernel_rfl
          refine ENDOPS (NEXT (IF (a.kind == 1) ?_ (fun bh33 => ?_) (fun bh33 => ?_)))
          · as_aux_lemma => kernel_rfl
          · -- a.kind == 1 = true
            have h33 := bh33
            have h33 := eq_of_beq h33
            refine SEQ (REGION [0, 1, 2, 3] rfl (RUN0 2 [2, 3] [(40, .v (.agg #[vi a.req.kind, vi a.req.id, vi a.req.cabin, vi a.req.from', vi a.req.size, vi a.req.tier]))] ?_ rfl ?_))
            · as_aux_lemma => kernel_rfl
            refine OPC (CALL 35 #[.agg #[vi a.req.kind, vi a.req.id, vi a.req.cabin, vi a.req.from', vi a.req.size, vi a.req.tier]] (some 41) ?_ [] [] _ rfl (RV (.bool (reqOk a.req))) (fun w hw => iReqOk_c w a.req) (by rintro _ ⟨⟩; exact Nat.le_of_ble_eq_true rfl) ?_)
            · as_aux_lemma => kernel_rfl
            rintro ⟨⟩
            refine RUN0 1 [] [(2, B (reqOk a.req))] ?_ rfl ?_
            · as_aux_lemma => kernel_rfl
            refine ENDOPS (NEXT (RET (OUTR (PASS trivial (FIN (.bool (reqOk a.req)) ?_ () ?_ [] ?_)))))
            · as_aux_lemma => kernel_rfl
            · (try simp [usedB] at *); simp_all [RV, actOk, noReq, reqEq, allKeep, usedB, List.length_pos_iff]
            · rfl
          · -- a.kind == 1 = false
            have h33 := bh33
            have h33 := ne_of_beq_false h33
            refine SEQ (REGION [0, 1] rfl (RUN0 2 [] [(1, .p 0 0), (36, I a.kind), (42, B (a.kind == 2))] ?_ rfl ?_))
            · as_aux_lemma => kernel_rfl
            refine ENDOPS (NEXT (IF (a.kind == 2) ?_ (fun bh34 => ?_) (fun bh34 => ?_)))
            · as_aux_lemma => kernel_rfl
            · -- a.kind == 2 = true
              have h34 := bh34
              have h34 := eq_of_beq h34
              refine SEQ (REGION [0] rfl (RUN0 1 [] [(2, B true)] ?_ rfl ?_))
              · as_aux_lemma => kernel_rfl
              refine ENDOPS (NEXT (RET (OUTR (PASS trivial (FIN (.bool true) ?_ () ?_ [] ?_)))))
              · as_aux_lemma => kernel_rfl
              · (try simp [usedB] at *); simp_all [RV, actOk, noReq, reqEq, allKeep, usedB, List.length_pos_iff]
              · rfl
            · -- a.kind == 2 = false
              have h34 := bh34
              have h34 := ne_of_beq_false h34
              refine SEQ (REGION [0, 1] rfl (RUN0 2 [] [(1, .p 0 0), (36, I a.kind), (44, B (a.kind == 3))] ?_ rfl ?_))
              · as_aux_lemma => kernel_rfl
              refine ENDOPS (NEXT (IF (a.kind == 3) ?_ (fun bh35 => ?_) (fun bh35 => ?_)))
              · as_aux_lemma => kernel_rfl
              · -- a.kind == 3 = true
                have h35 := bh35
                have h35 := eq_of_beq h35
                refine SEQ (REGION [0, 1, 2, 3] rfl (RUN0 2 [2, 3] [(47, I a.n)] ?_ rfl ?_))
                · as_aux_lemma => kernel_rfl
                refine OPC (CALL 26 #[vi a.n, vi 0, vi 9999] (some 48) ?_ [] [] _ rfl (RV (.bool (inB a.n 0 9999))) (fun w hw => within_c w a.n 0 9999) (by rintro _ ⟨⟩; exact Nat.le_of_ble_eq_true rfl) ?_)
                · as_aux_lemma => kernel_rfl
                rintro ⟨⟩
                refine RUN0 1 [] [(2, B (inB a.n 0 9999))] ?_ rfl ?_
                · as_aux_lemma => kernel_rfl
                refine ENDOPS (NEXT (RET (OUTR (PASS trivial (FIN (.bool (inB a.n 0 9999)) ?_ () ?_ [] ?_)))))
                · as_aux_lemma => kernel_rfl
                · (try simp [usedB] at *); simp_all [RV, actOk, noReq, reqEq, allKeep, usedB, List.length_pos_iff]
                · rfl
              · -- a.kind == 3 = false
                have h35 := bh35
                have h35 := ne_of_beq_false h35
                refine SEQ (REGION [0, 1] rfl (RUN0 2 [] [(1, .p 0 0), (49, B (a.kind == 4))] ?_ rfl ?_))
                · as_aux_lemma => kernel_rfl
                refine ENDOPS (NEXT (IF (a.kind == 4) ?_ (fun bh36 => ?_) (fun bh36 => ?_)))
                · as_aux_lemma => kernel_rfl
                · -- a.kind == 4 = true
                  have h36 := bh36
                  have h36 := eq_of_beq h36
                  refine SEQ (SEQ (REGION [0, 1, 2, 3] rfl (RUN0 4 [] [(1, .p 0 0), (52, .v (.slice a_keep_a a.keep.length a_keep_c)), (53, I (a.keep.length : Int)), (54, I 0)] ?_ rfl ?_)))
                  · as_aux_lemma => kernel_rfl
                  refine ENDOPS (NEXT (BLOCK (LOOP (ι := Nat × (List Int)) (fun j => [(1, .p 0 0), (52, .v (.slice a_keep_a a.keep.length a_keep_c)), (53, I (a.keep.length : Int)), (54, I (j.1 : Int))]) (fun j => [(43, [vi a.kind, vi a.req.kind, vi a.req.id, vi a.req.cabin, vi a.req.from', vi a.req.size, vi a.req.tier, vi a.n, .slice a_keep_a a.keep.length a_keep_c])]) (fun j => []) (fun j => j.1 + j.2.length = a.keep.length ∧ a.keep.drop j.1 = j.2 ∧ allKeep a.keep = allKeep j.2) (fun j => j.2.length) (0, a.keep) [1, 52, 53, 54] ⟨by simp, rfl, rfl⟩ ?_ rfl rfl ?_)))
                  · as_aux_lemma => kernel_rfl
                  rintro ⟨k, ys⟩ ⟨hk, hd, hv0⟩
                  dsimp only at hk hd hv0
                  refine SEQ (REGION [0] rfl (RUN0 1 [] [(1, .p 0 0), (52, .v (.slice a_keep_a a.keep.length a_keep_c)), (53, I (a.keep.length : Int)), (54, I (k : Int)), (55, B (decide ((k : Int) < (a.keep.length : Int))))] ?_ rfl ?_))
                  · as_aux_lemma => kernel_rfl
                  refine ENDOPS (NEXT (SEQ (IF (decide ((k : Int) < (a.keep.length : Int))) ?_ (fun bh37 => ?_) (fun bh37 => ?_))))
                  · as_aux_lemma => kernel_rfl
                  · -- decide ((k : Int) < (a.keep.length : Int)) = true
                    have h37 := bh37
                    have h37 := of_decide_eq_true h37
                    obtain ⟨y38, ys39, rfl, hx_y38, hd_y38, hl_y38⟩ := drop_cons hd hk (by omega)
                    refine SKIP (NEXT (SEQ (BLOCK (SEQ (REGION [0, 1, 2] rfl (OPC (INDEX 24 (.tmp 52) (.tmp 54) 56 0 ?_ (Nat.le_of_ble_eq_true rfl) a_keep_a a.keep.length a_keep_c .i64 (k : Int) 3 1 ?_ ?_ ?_ ?_ (Rd.some ha_keep (by omega)) (by omega) (by omega) ?_)))))))
                    · as_aux_lemma => kernel_rfl
                    · as_aux_lemma => kernel_rfl
                    · as_aux_lemma => kernel_rfl
                    · as_aux_lemma => kernel_rfl
                    · as_aux_lemma => kernel_rfl
                    refine OPC (LOADE 3 (.tmp 56) 57 3 ?_ (Nat.le_of_ble_eq_true rfl) a_keep_a (k * 1) 0 [vi y38] (vi y38) ?_ (fun w hw => (ha_keep.fr hw.fr).flat hx_y38) ?_ ?_)
                    · as_aux_lemma => kernel_rfl
                    · as_aux_lemma => kernel_rfl
                    · as_aux_lemma => kernel_rfl
                    refine RUN0 1 [] [(1, .p 0 0), (4, I y38), (52, .v (.slice a_keep_a a.keep.length a_keep_c)), (53, I (a.keep.length : Int)), (54, I (k : Int))] ?_ rfl ?_
                    · as_aux_lemma => kernel_rfl
                    refine ENDOPS (NEXT (SEQ (REGION [0, 1, 2] rfl (RUN0 1 [1, 2] [(1, .p 0 0), (52, .v (.slice a_keep_a a.keep.length a_keep_c)), (53, I (a.keep.length : Int)), (54, I (k : Int)), (58, I y38)] ?_ rfl ?_))))
                    · as_aux_lemma => kernel_rfl
                    refine OPC (CALL 26 #[vi y38, vi 0, vi 20000] (some 59) ?_ [] [] _ rfl (RV (.bool (inB y38 0 20000))) (fun w hw => within_c w y38 0 20000) (by rintro _ ⟨⟩; exact Nat.le_of_ble_eq_true rfl) ?_)
                    · as_aux_lemma => kernel_rfl
                    rintro ⟨⟩
                    refine RUN0 1 [] [(1, .p 0 0), (52, .v (.slice a_keep_a a.keep.length a_keep_c)), (53, I (a.keep.length : Int)), (54, I (k : Int)), (60, B (!(inB y38 0 20000)))] ?_ rfl ?_
                    · as_aux_lemma => kernel_rfl
                    refine ENDOPS (NEXT (IF (!(inB y38 0 20000)) ?_ (fun bh40 => ?_) (fun bh40 => ?_)))
                    · as_aux_lemma => kernel_rfl
                    · -- !(inB y38 0 20000) = true
                      have h40 := bh40
                      have h40 := notT h40
                      refine SEQ (REGION [0] rfl (RUN0 1 [] [(2, B false)] ?_ rfl ?_))
                      · as_aux_lemma => kernel_rfl
                      refine ENDOPS (NEXT (RET (OUTR (PASS trivial (PASS trivial (OUTR (PASS trivial (OUTR (PASS trivial (FIN (.bool false) ?_ () ?_ [] ?_))))))))))
                      · as_aux_lemma => kernel_rfl
                      · (try simp [usedB] at *); simp_all [RV, actOk, noReq, reqEq, allKeep, usedB, List.length_pos_iff]
                      · rfl
                    · -- !(inB y38 0 20000) = false
                      have h40 := bh40
                      have h40 := notF h40
                      refine SKIP (OUTN (NEXT (REGION [0, 1] rfl (RUN0 1 [1] [(1, .p 0 0), (52, .v (.slice a_keep_a a.keep.length a_keep_c)), (53, I (a.keep.length : Int)), (61, I (wr ((k : Int) + 1)))] ?_ rfl ?_))))
                      · as_aux_lemma => kernel_rfl
                      refine CAST (d := 61) (vi (wr ((k : Int) + 1))) (vi ((k + 1 : Nat) : Int)) ?_ (vi_cast (by omega) (by omega)) ?_
                      · as_aux_lemma => kernel_rfl
                      refine RUN0 1 [] [(1, .p 0 0), (52, .v (.slice a_keep_a a.keep.length a_keep_c)), (53, I (a.keep.length : Int)), (54, I ((k + 1 : Nat) : Int))] ?_ rfl ?_
                      · as_aux_lemma => kernel_rfl
                      refine ENDOPS (BACK (k + 1, ys39) [1, 52, 53, 54] 1 [] _ ⟨hl_y38, hd_y38, hv0.trans (by simp [allKeep, *])⟩ (by simp) ?_ rfl rfl rfl)
                      · as_aux_lemma => kernel_rfl
                  · -- decide ((k : Int) < (a.keep.length : Int)) = false
                    have h37 := bh37
                    have h37 := of_decide_eq_false h37
                    obtain rfl := drop_nil hk (by omega)
                    refine EXIT (PASS trivial (PASS trivial (OUT (NEXT (SEQ (REGION [0, 1, 2, 3, 4] rfl (RUN0 5 [] [(2, B (decide ((a.keep.length : Int) ≤ 3)))] ?_ rfl ?_)))))))
                    · as_aux_lemma => kernel_rfl
                    refine ENDOPS (NEXT (RET (OUTR (PASS trivial (FIN (.bool (decide ((a.keep.length : Int) ≤ 3))) ?_ () ?_ [] ?_)))))
                    · as_aux_lemma => kernel_rfl
                    · (try simp [usedB] at *); simp_all [RV, actOk, noReq, reqEq, allKeep, usedB, List.length_pos_iff]
                    · rfl
                · -- a.kind == 4 = false
                  have h36 := bh36
                  have h36 := ne_of_beq_false h36
                  refine SKIP (OUTN (NEXT (SEQ (REGION [0] rfl (RUN0 1 [] [(2, B false)] ?_ rfl ?_)))))
                  · as_aux_lemma => kernel_rfl
                  refine ENDOPS (NEXT (RET (FIN (.bool false) ?_ () ?_ [] ?_)))
                  · as_aux_lemma => kernel_rfl
                  · (try simp [usedB] at *); simp_all [RV, actOk, noReq, reqEq, allKeep, usedB, List.length_pos_iff]
                  · rfl
  · -- a.kind != 1 = false
    have h1 := bh1
    have h1 := bneF h1
    refine RUN0 10 [14, 15, 16, 17, 18, 19, 20, 21, 22, 23, 24, 25, 26, 27, 28, 29] [(1, .p 0 0), (14, B false), (18, B (a.kind != 3))] ?_ rfl ?_
    · as_aux_lemma => kernel_rfl
    refine SPLIT (d := 18) (a.kind != 3) ?_ (fun bh41 => ?_) (fun bh41 => ?_)
    · as_aux_lemma => kernel_rfl
    · -- a.kind != 3 = true
      have h41 := bh41
      have h41 := bne_iff_ne.1 h41
      refine RUN0 6 [20, 21, 22, 23, 24, 25, 26, 27, 28, 29] [(1, .p 0 0), (24, B (a.n != 0))] ?_ rfl ?_
      · as_aux_lemma => kernel_rfl
      refine SPLIT (d := 24) (a.n != 0) ?_ (fun bh42 => ?_) (fun bh42 => ?_)
      · as_aux_lemma => kernel_rfl
      · -- a.n != 0 = true
        have h42 := bh42
        have h42 := bne_iff_ne.1 h42
        refine RUN0 10 [] [(1, .p 0 0), (34, B true)] ?_ rfl ?_
        · as_aux_lemma => kernel_rfl
        refine ENDOPS (NEXT (IFT ?_ ?_))
        · as_aux_lemma => kernel_rfl
        refine SEQ (REGION [0] rfl (RUN0 1 [] [(2, B false)] ?_ rfl ?_))
        · as_aux_lemma => kernel_rfl
        refine ENDOPS (NEXT (RET (PASS trivial (FIN (.bool false) ?_ () ?_ [] ?_))))
        · as_aux_lemma => kernel_rfl
        · (try simp [usedB] at *); simp_all [RV, actOk, noReq, reqEq, allKeep, usedB, List.length_pos_iff]
        · rfl
      · -- a.n != 0 = false
        have h42 := bh42
        have h42 := bneF h42
        refine RUN0 4 [24, 25, 26, 27, 28, 29] [(1, .p 0 0), (24, B false), (28, B (a.kind != 4))] ?_ rfl ?_
        · as_aux_lemma => kernel_rfl
        refine SPLIT (d := 28) (a.kind != 4) ?_ (fun bh43 => ?_) (fun bh43 => ?_)
        · as_aux_lemma => kernel_rfl
        · -- a.kind != 4 = true
          have h43 := bh43
          have h43 := bne_iff_ne.1 h43
          refine RUN0 6 [] [(1, .p 0 0), (34, B (decide ((a.keep.length : Int) > 0)))] ?_ rfl ?_
          · as_aux_lemma => kernel_rfl
          refine ENDOPS (NEXT (IF (decide ((a.keep.length : Int) > 0)) ?_ (fun bh44 => ?_) (fun bh44 => ?_)))
          · as_aux_lemma => kernel_rfl
          · -- decide ((a.keep.length : Int) > 0) = true
            have h44 := bh44
            have h44 := of_decide_eq_true h44
            refine SEQ (REGION [0] rfl (RUN0 1 [] [(2, B false)] ?_ rfl ?_))
            · as_aux_lemma => kernel_rfl
            refine ENDOPS (NEXT (RET (PASS trivial (FIN (.bool false) ?_ () ?_ [] ?_))))
            · as_aux_lemma => kernel_rfl
            · (try simp [usedB] at *); simp_all [RV, actOk, noReq, reqEq, allKeep, usedB, List.length_pos_iff]
            · rfl
          · -- decide ((a.keep.length : Int) > 0) = false
            have h44 := bh44
            have h44 := of_decide_eq_false h44
            refine SKIP (NEXT (SEQ (SEQ (REGION [0, 1] rfl (RUN0 2 [] [(1, .p 0 0), (36, I a.kind)] ?_ rfl ?_)))))
            · as_aux_lemma => kernel_rfl
            refine ENDOPS (NEXT (BLOCK (SEQ (REGION [0, 1] rfl (RUN0 2 [] [(1, .p 0 0), (36, I a.kind), (37, B (a.kind == 1))] ?_ rfl ?_)))))
            · as_aux_lemma => kernel_rfl
            refine ENDOPS (NEXT (IF (a.kind == 1) ?_ (fun bh45 => ?_) (fun bh45 => ?_)))
            · as_aux_lemma => kernel_rfl
            · -- a.kind == 1 = true
              have h45 := bh45
              have h45 := eq_of_beq h45
              refine SEQ (REGION [0, 1, 2, 3] rfl (RUN0 2 [2, 3] [(40, .v (.agg #[vi a.req.kind, vi a.req.id, vi a.req.cabin, vi a.req.from', vi a.req.size, vi a.req.tier]))] ?_ rfl ?_))
              · as_aux_lemma => kernel_rfl
              refine OPC (CALL 35 #[.agg #[vi a.req.kind, vi a.req.id, vi a.req.cabin, vi a.req.from', vi a.req.size, vi a.req.tier]] (some 41) ?_ [] [] _ rfl (RV (.bool (reqOk a.req))) (fun w hw => iReqOk_c w a.req) (by rintro _ ⟨⟩; exact Nat.le_of_ble_eq_true rfl) ?_)
              · as_aux_lemma => kernel_rfl
              rintro ⟨⟩
              refine RUN0 1 [] [(2, B (reqOk a.req))] ?_ rfl ?_
              · as_aux_lemma => kernel_rfl
              refine ENDOPS (NEXT (RET (OUTR (PASS trivial (FIN (.bool (reqOk a.req)) ?_ () ?_ [] ?_)))))
              · as_aux_lemma => kernel_rfl
              · (try simp [usedB] at *); simp_all [RV, actOk, noReq, reqEq, allKeep, usedB, List.length_pos_iff]
              · rfl
            · -- a.kind == 1 = false
              have h45 := bh45
              have h45 := ne_of_beq_false h45
              refine SEQ (REGION [0, 1] rfl (RUN0 2 [] [(1, .p 0 0), (36, I a.kind), (42, B (a.kind == 2))] ?_ rfl ?_))
              · as_aux_lemma => kernel_rfl
              refine ENDOPS (NEXT (IF (a.kind == 2) ?_ (fun bh46 => ?_) (fun bh46 => ?_)))
              · as_aux_lemma => kernel_rfl
              · -- a.kind == 2 = true
                have h46 := bh46
                have h46 := eq_of_beq h46
                refine SEQ (REGION [0] rfl (RUN0 1 [] [(2, B true)] ?_ rfl ?_))
                · as_aux_lemma => kernel_rfl
                refine ENDOPS (NEXT (RET (OUTR (PASS trivial (FIN (.bool true) ?_ () ?_ [] ?_)))))
                · as_aux_lemma => kernel_rfl
                · (try simp [usedB] at *); simp_all [RV, actOk, noReq, reqEq, allKeep, usedB, List.length_pos_iff]
                · rfl
              · -- a.kind == 2 = false
                have h46 := bh46
                have h46 := ne_of_beq_false h46
                refine SEQ (REGION [0, 1] rfl (RUN0 2 [] [(1, .p 0 0), (36, I a.kind), (44, B (a.kind == 3))] ?_ rfl ?_))
                · as_aux_lemma => kernel_rfl
                refine ENDOPS (NEXT (IF (a.kind == 3) ?_ (fun bh47 => ?_) (fun bh47 => ?_)))
                · as_aux_lemma => kernel_rfl
                · -- a.kind == 3 = true
                  have h47 := bh47
                  have h47 := eq_of_beq h47
                  refine SEQ (REGION [0, 1, 2, 3] rfl (RUN0 2 [2, 3] [(47, I a.n)] ?_ rfl ?_))
                  · as_aux_lemma => kernel_rfl
                  refine OPC (CALL 26 #[vi a.n, vi 0, vi 9999] (some 48) ?_ [] [] _ rfl (RV (.bool (inB a.n 0 9999))) (fun w hw => within_c w a.n 0 9999) (by rintro _ ⟨⟩; exact Nat.le_of_ble_eq_true rfl) ?_)
                  · as_aux_lemma => kernel_rfl
                  rintro ⟨⟩
                  refine RUN0 1 [] [(2, B (inB a.n 0 9999))] ?_ rfl ?_
                  · as_aux_lemma => kernel_rfl
                  refine ENDOPS (NEXT (RET (OUTR (PASS trivial (FIN (.bool (inB a.n 0 9999)) ?_ () ?_ [] ?_)))))
                  · as_aux_lemma => kernel_rfl
                  · (try simp [usedB] at *); simp_all [RV, actOk, noReq, reqEq, allKeep, usedB, List.length_pos_iff]
                  · rfl
                · -- a.kind == 3 = false
                  have h47 := bh47
                  have h47 := ne_of_beq_false h47
                  refine SEQ (REGION [0, 1] rfl (RUN0 2 [] [(1, .p 0 0), (49, B (a.kind == 4))] ?_ rfl ?_))
                  · as_aux_lemma => kernel_rfl
                  refine ENDOPS (NEXT (IF (a.kind == 4) ?_ (fun bh48 => ?_) (fun bh48 => ?_)))
                  · as_aux_lemma => kernel_rfl
                  · -- a.kind == 4 = true
                    have h48 := bh48
                    have h48 := eq_of_beq h48
                    refine SEQ (SEQ (REGION [0, 1, 2, 3] rfl (RUN0 4 [] [(1, .p 0 0), (52, .v (.slice a_keep_a a.keep.length a_keep_c)), (53, I (a.keep.length : Int)), (54, I 0)] ?_ rfl ?_)))
                    · as_aux_lemma => kernel_rfl
                    refine ENDOPS (NEXT (BLOCK (LOOP (ι := Nat × (List Int)) (fun j => [(1, .p 0 0), (52, .v (.slice a_keep_a a.keep.length a_keep_c)), (53, I (a.keep.length : Int)), (54, I (j.1 : Int))]) (fun j => [(43, [vi a.kind, vi a.req.kind, vi a.req.id, vi a.req.cabin, vi a.req.from', vi a.req.size, vi a.req.tier, vi a.n, .slice a_keep_a a.keep.length a_keep_c])]) (fun j => []) (fun j => j.1 + j.2.length = a.keep.length ∧ a.keep.drop j.1 = j.2 ∧ allKeep a.keep = allKeep j.2) (fun j => j.2.length) (0, a.keep) [1, 52, 53, 54] ⟨by simp, rfl, rfl⟩ ?_ rfl rfl ?_)))
                    · as_aux_lemma => kernel_rfl
                    rintro ⟨k, ys⟩ ⟨hk, hd, hv0⟩
                    dsimp only at hk hd hv0
                    refine SEQ (REGION [0] rfl (RUN0 1 [] [(1, .p 0 0), (52, .v (.slice a_keep_a a.keep.length a_keep_c)), (53, I (a.keep.length : Int)), (54, I (k : Int)), (55, B (decide ((k : Int) < (a.keep.length : Int))))] ?_ rfl ?_))
                    · as_aux_lemma => kernel_rfl
                    refine ENDOPS (NEXT (SEQ (IF (decide ((k : Int) < (a.keep.length : Int))) ?_ (fun bh49 => ?_) (fun bh49 => ?_))))
                    · as_aux_lemma => kernel_rfl
                    · -- decide ((k : Int) < (a.keep.length : Int)) = true
                      have h49 := bh49
                      have h49 := of_decide_eq_true h49
                      obtain ⟨y50, ys51, rfl, hx_y50, hd_y50, hl_y50⟩ := drop_cons hd hk (by omega)
                      refine SKIP (NEXT (SEQ (BLOCK (SEQ (REGION [0, 1, 2] rfl (OPC (INDEX 24 (.tmp 52) (.tmp 54) 56 0 ?_ (Nat.le_of_ble_eq_true rfl) a_keep_a a.keep.length a_keep_c .i64 (k : Int) 3 1 ?_ ?_ ?_ ?_ (Rd.some ha_keep (by omega)) (by omega) (by omega) ?_)))))))
                      · as_aux_lemma => kernel_rfl
                      · as_aux_lemma => kernel_rfl
                      · as_aux_lemma => kernel_rfl
                      · as_aux_lemma => kernel_rfl
                      · as_aux_lemma => kernel_rfl
                      refine OPC (LOADE 3 (.tmp 56) 57 3 ?_ (Nat.le_of_ble_eq_true rfl) a_keep_a (k * 1) 0 [vi y50] (vi y50) ?_ (fun w hw => (ha_keep.fr hw.fr).flat hx_y50) ?_ ?_)
                      · as_aux_lemma => kernel_rfl
                      · as_aux_lemma => kernel_rfl
                      · as_aux_lemma => kernel_rfl
                      refine RUN0 1 [] [(1, .p 0 0), (4, I y50), (52, .v (.slice a_keep_a a.keep.length a_keep_c)), (53, I (a.keep.length : Int)), (54, I (k : Int))] ?_ rfl ?_
                      · as_aux_lemma => kernel_rfl
                      refine ENDOPS (NEXT (SEQ (REGION [0, 1, 2] rfl (RUN0 1 [1, 2] [(1, .p 0 0), (52, .v (.slice a_keep_a a.keep.length a_keep_c)), (53, I (a.keep.length : Int)), (54, I (k : Int)), (58, I y50)] ?_ rfl ?_))))
                      · as_aux_lemma => kernel_rfl
                      refine OPC (CALL 26 #[vi y50, vi 0, vi 20000] (some 59) ?_ [] [] _ rfl (RV (.bool (inB y50 0 20000))) (fun w hw => within_c w y50 0 20000) (by rintro _ ⟨⟩; exact Nat.le_of_ble_eq_true rfl) ?_)
                      · as_aux_lemma => kernel_rfl
                      rintro ⟨⟩
                      refine RUN0 1 [] [(1, .p 0 0), (52, .v (.slice a_keep_a a.keep.length a_keep_c)), (53, I (a.keep.length : Int)), (54, I (k : Int)), (60, B (!(inB y50 0 20000)))] ?_ rfl ?_
                      · as_aux_lemma => kernel_rfl
                      refine ENDOPS (NEXT (IF (!(inB y50 0 20000)) ?_ (fun bh52 => ?_) (fun bh52 => ?_)))
                      · as_aux_lemma => kernel_rfl
                      · -- !(inB y50 0 20000) = true
                        have h52 := bh52
                        have h52 := notT h52
                        refine SEQ (REGION [0] rfl (RUN0 1 [] [(2, B false)] ?_ rfl ?_))
                        · as_aux_lemma => kernel_rfl
                        refine ENDOPS (NEXT (RET (OUTR (PASS trivial (PASS trivial (OUTR (PASS trivial (OUTR (PASS trivial (FIN (.bool false) ?_ () ?_ [] ?_))))))))))
                        · as_aux_lemma => kernel_rfl
                        · (try simp [usedB] at *); simp_all [RV, actOk, noReq, reqEq, allKeep, usedB, List.length_pos_iff]
                        · rfl
                      · -- !(inB y50 0 20000) = false
                        have h52 := bh52
                        have h52 := notF h52
                        refine SKIP (OUTN (NEXT (REGION [0, 1] rfl (RUN0 1 [1] [(1, .p 0 0), (52, .v (.slice a_keep_a a.keep.length a_keep_c)), (53, I (a.keep.length : Int)), (61, I (wr ((k : Int) + 1)))] ?_ rfl ?_))))
                        · as_aux_lemma => kernel_rfl
                        refine CAST (d := 61) (vi (wr ((k : Int) + 1))) (vi ((k + 1 : Nat) : Int)) ?_ (vi_cast (by omega) (by omega)) ?_
                        · as_aux_lemma => kernel_rfl
                        refine RUN0 1 [] [(1, .p 0 0), (52, .v (.slice a_keep_a a.keep.length a_keep_c)), (53, I (a.keep.length : Int)), (54, I ((k + 1 : Nat) : Int))] ?_ rfl ?_
                        · as_aux_lemma => kernel_rfl
                        refine ENDOPS (BACK (k + 1, ys51) [1, 52, 53, 54] 1 [] _ ⟨hl_y50, hd_y50, hv0.trans (by simp [allKeep, *])⟩ (by simp) ?_ rfl rfl rfl)
                        · as_aux_lemma => kernel_rfl
                    · -- decide ((k : Int) < (a.keep.length : Int)) = false
                      have h49 := bh49
                      have h49 := of_decide_eq_false h49
                      obtain rfl := drop_nil hk (by omega)
                      refine EXIT (PASS trivial (PASS trivial (OUT (NEXT (SEQ (REGION [0, 1, 2, 3, 4] rfl (RUN0 5 [] [(2, B (decide ((a.keep.length : Int) ≤ 3)))] ?_ rfl ?_)))))))
                      · as_aux_lemma => kernel_rfl
                      refine ENDOPS (NEXT (RET (OUTR (PASS trivial (FIN (.bool (decide ((a.keep.length : Int) ≤ 3))) ?_ () ?_ [] ?_)))))
                      · as_aux_lemma => kernel_rfl
                      · (try simp [usedB] at *); simp_all [RV, actOk, noReq, reqEq, allKeep, usedB, List.length_pos_iff]
                      · rfl
                  · -- a.kind == 4 = false
                    have h48 := bh48
                    have h48 := ne_of_beq_false h48
                    refine SKIP (OUTN (NEXT (SEQ (REGION [0] rfl (RUN0 1 [] [(2, B false)] ?_ rfl ?_)))))
                    · as_aux_lemma => kernel_rfl
                    refine ENDOPS (NEXT (RET (FIN (.bool false) ?_ () ?_ [] ?_)))
                    · as_aux_lemma => kernel_rfl
                    · (try simp [usedB] at *); simp_all [RV, actOk, noReq, reqEq, allKeep, usedB, List.length_pos_iff]
                    · rfl
        · -- a.kind != 4 = false
          have h43 := bh43
          have h43 := bneF h43
          refine RUN0 6 [] [(1, .p 0 0), (34, B false)] ?_ rfl ?_
          · as_aux_lemma => kernel_rfl
          refine ENDOPS (NEXT (IFF ?_ ?_))
          · as_aux_lemma => kernel_rfl
          refine SKIP (NEXT (SEQ (SEQ (REGION [0, 1] rfl (RUN0 2 [] [(1, .p 0 0), (36, I a.kind)] ?_ rfl ?_)))))
          · as_aux_lemma => kernel_rfl
          refine ENDOPS (NEXT (BLOCK (SEQ (REGION [0, 1] rfl (RUN0 2 [] [(1, .p 0 0), (36, I a.kind), (37, B (a.kind == 1))] ?_ rfl ?_)))))
          · as_aux_lemma => kernel_rfl
          refine ENDOPS (NEXT (IF (a.kind == 1) ?_ (fun bh53 => ?_) (fun bh53 => ?_)))
          · as_aux_lemma => kernel_rfl
          · -- a.kind == 1 = true
            have h53 := bh53
            have h53 := eq_of_beq h53
            refine SEQ (REGION [0, 1, 2, 3] rfl (RUN0 2 [2, 3] [(40, .v (.agg #[vi a.req.kind, vi a.req.id, vi a.req.cabin, vi a.req.from', vi a.req.size, vi a.req.tier]))] ?_ rfl ?_))
            · as_aux_lemma => kernel_rfl
            refine OPC (CALL 35 #[.agg #[vi a.req.kind, vi a.req.id, vi a.req.cabin, vi a.req.from', vi a.req.size, vi a.req.tier]] (some 41) ?_ [] [] _ rfl (RV (.bool (reqOk a.req))) (fun w hw => iReqOk_c w a.req) (by rintro _ ⟨⟩; exact Nat.le_of_ble_eq_true rfl) ?_)
            · as_aux_lemma => kernel_rfl
            rintro ⟨⟩
            refine RUN0 1 [] [(2, B (reqOk a.req))] ?_ rfl ?_
            · as_aux_lemma => kernel_rfl
            refine ENDOPS (NEXT (RET (OUTR (PASS trivial (FIN (.bool (reqOk a.req)) ?_ () ?_ [] ?_)))))
            · as_aux_lemma => kernel_rfl
            · (try simp [usedB] at *); simp_all [RV, actOk, noReq, reqEq, allKeep, usedB, List.length_pos_iff]
            · rfl
          · -- a.kind == 1 = false
            have h53 := bh53
            have h53 := ne_of_beq_false h53
            refine SEQ (REGION [0, 1] rfl (RUN0 2 [] [(1, .p 0 0), (36, I a.kind), (42, B (a.kind == 2))] ?_ rfl ?_))
            · as_aux_lemma => kernel_rfl
            refine ENDOPS (NEXT (IF (a.kind == 2) ?_ (fun bh54 => ?_) (fun bh54 => ?_)))
            · as_aux_lemma => kernel_rfl
            · -- a.kind == 2 = true
              have h54 := bh54
              have h54 := eq_of_beq h54
              refine SEQ (REGION [0] rfl (RUN0 1 [] [(2, B true)] ?_ rfl ?_))
              · as_aux_lemma => kernel_rfl
              refine ENDOPS (NEXT (RET (OUTR (PASS trivial (FIN (.bool true) ?_ () ?_ [] ?_)))))
              · as_aux_lemma => kernel_rfl
              · (try simp [usedB] at *); simp_all [RV, actOk, noReq, reqEq, allKeep, usedB, List.length_pos_iff]
              · rfl
            · -- a.kind == 2 = false
              have h54 := bh54
              have h54 := ne_of_beq_false h54
              refine SEQ (REGION [0, 1] rfl (RUN0 2 [] [(1, .p 0 0), (36, I a.kind), (44, B (a.kind == 3))] ?_ rfl ?_))
              · as_aux_lemma => kernel_rfl
              refine ENDOPS (NEXT (IF (a.kind == 3) ?_ (fun bh55 => ?_) (fun bh55 => ?_)))
              · as_aux_lemma => kernel_rfl
              · -- a.kind == 3 = true
                have h55 := bh55
                have h55 := eq_of_beq h55
                refine SEQ (REGION [0, 1, 2, 3] rfl (RUN0 2 [2, 3] [(47, I a.n)] ?_ rfl ?_))
                · as_aux_lemma => kernel_rfl
                refine OPC (CALL 26 #[vi a.n, vi 0, vi 9999] (some 48) ?_ [] [] _ rfl (RV (.bool (inB a.n 0 9999))) (fun w hw => within_c w a.n 0 9999) (by rintro _ ⟨⟩; exact Nat.le_of_ble_eq_true rfl) ?_)
                · as_aux_lemma => kernel_rfl
                rintro ⟨⟩
                refine RUN0 1 [] [(2, B (inB a.n 0 9999))] ?_ rfl ?_
                · as_aux_lemma => kernel_rfl
                refine ENDOPS (NEXT (RET (OUTR (PASS trivial (FIN (.bool (inB a.n 0 9999)) ?_ () ?_ [] ?_)))))
                · as_aux_lemma => kernel_rfl
                · (try simp [usedB] at *); simp_all [RV, actOk, noReq, reqEq, allKeep, usedB, List.length_pos_iff]
                · rfl
              · -- a.kind == 3 = false
                have h55 := bh55
                have h55 := ne_of_beq_false h55
                refine SEQ (REGION [0, 1] rfl (RUN0 2 [] [(1, .p 0 0), (49, B (a.kind == 4))] ?_ rfl ?_))
                · as_aux_lemma => kernel_rfl
                refine ENDOPS (NEXT (IF (a.kind == 4) ?_ (fun bh56 => ?_) (fun bh56 => ?_)))
                · as_aux_lemma => kernel_rfl
                · -- a.kind == 4 = true
                  have h56 := bh56
                  have h56 := eq_of_beq h56
                  refine SEQ (SEQ (REGION [0, 1, 2, 3] rfl (RUN0 4 [] [(1, .p 0 0), (52, .v (.slice a_keep_a a.keep.length a_keep_c)), (53, I (a.keep.length : Int)), (54, I 0)] ?_ rfl ?_)))
                  · as_aux_lemma => kernel_rfl
                  refine ENDOPS (NEXT (BLOCK (LOOP (ι := Nat × (List Int)) (fun j => [(1, .p 0 0), (52, .v (.slice a_keep_a a.keep.length a_keep_c)), (53, I (a.keep.length : Int)), (54, I (j.1 : Int))]) (fun j => [(43, [vi a.kind, vi a.req.kind, vi a.req.id, vi a.req.cabin, vi a.req.from', vi a.req.size, vi a.req.tier, vi a.n, .slice a_keep_a a.keep.length a_keep_c])]) (fun j => []) (fun j => j.1 + j.2.length = a.keep.length ∧ a.keep.drop j.1 = j.2 ∧ allKeep a.keep = allKeep j.2) (fun j => j.2.length) (0, a.keep) [1, 52, 53, 54] ⟨by simp, rfl, rfl⟩ ?_ rfl rfl ?_)))
                  · as_aux_lemma => kernel_rfl
                  rintro ⟨k, ys⟩ ⟨hk, hd, hv0⟩
                  dsimp only at hk hd hv0
                  refine SEQ (REGION [0] rfl (RUN0 1 [] [(1, .p 0 0), (52, .v (.slice a_keep_a a.keep.length a_keep_c)), (53, I (a.keep.length : Int)), (54, I (k : Int)), (55, B (decide ((k : Int) < (a.keep.length : Int))))] ?_ rfl ?_))
                  · as_aux_lemma => kernel_rfl
                  refine ENDOPS (NEXT (SEQ (IF (decide ((k : Int) < (a.keep.length : Int))) ?_ (fun bh57 => ?_) (fun bh57 => ?_))))
                  · as_aux_lemma => kernel_rfl
                  · -- decide ((k : Int) < (a.keep.length : Int)) = true
                    have h57 := bh57
                    have h57 := of_decide_eq_true h57
                    obtain ⟨y58, ys59, rfl, hx_y58, hd_y58, hl_y58⟩ := drop_cons hd hk (by omega)
                    refine SKIP (NEXT (SEQ (BLOCK (SEQ (REGION [0, 1, 2] rfl (OPC (INDEX 24 (.tmp 52) (.tmp 54) 56 0 ?_ (Nat.le_of_ble_eq_true rfl) a_keep_a a.keep.length a_keep_c .i64 (k : Int) 3 1 ?_ ?_ ?_ ?_ (Rd.some ha_keep (by omega)) (by omega) (by omega) ?_)))))))
                    · as_aux_lemma => kernel_rfl
                    · as_aux_lemma => kernel_rfl
                    · as_aux_lemma => kernel_rfl
                    · as_aux_lemma => kernel_rfl
                    · as_aux_lemma => kernel_rfl
                    refine OPC (LOADE 3 (.tmp 56) 57 3 ?_ (Nat.le_of_ble_eq_true rfl) a_keep_a (k * 1) 0 [vi y58] (vi y58) ?_ (fun w hw => (ha_keep.fr hw.fr).flat hx_y58) ?_ ?_)
                    · as_aux_lemma => kernel_rfl
                    · as_aux_lemma => kernel_rfl
                    · as_aux_lemma => kernel_rfl
                    refine RUN0 1 [] [(1, .p 0 0), (4, I y58), (52, .v (.slice a_keep_a a.keep.length a_keep_c)), (53, I (a.keep.length : Int)), (54, I (k : Int))] ?_ rfl ?_
                    · as_aux_lemma => kernel_rfl
                    refine ENDOPS (NEXT (SEQ (REGION [0, 1, 2] rfl (RUN0 1 [1, 2] [(1, .p 0 0), (52, .v (.slice a_keep_a a.keep.length a_keep_c)), (53, I (a.keep.length : Int)), (54, I (k : Int)), (58, I y58)] ?_ rfl ?_))))
                    · as_aux_lemma => kernel_rfl
                    refine OPC (CALL 26 #[vi y58, vi 0, vi 20000] (some 59) ?_ [] [] _ rfl (RV (.bool (inB y58 0 20000))) (fun w hw => within_c w y58 0 20000) (by rintro _ ⟨⟩; exact Nat.le_of_ble_eq_true rfl) ?_)
                    · as_aux_lemma => kernel_rfl
                    rintro ⟨⟩
                    refine RUN0 1 [] [(1, .p 0 0), (52, .v (.slice a_keep_a a.keep.length a_keep_c)), (53, I (a.keep.length : Int)), (54, I (k : Int)), (60, B (!(inB y58 0 20000)))] ?_ rfl ?_
                    · as_aux_lemma => kernel_rfl
                    refine ENDOPS (NEXT (IF (!(inB y58 0 20000)) ?_ (fun bh60 => ?_) (fun bh60 => ?_)))
                    · as_aux_lemma => kernel_rfl
                    · -- !(inB y58 0 20000) = true
                      have h60 := bh60
                      have h60 := notT h60
                      refine SEQ (REGION [0] rfl (RUN0 1 [] [(2, B false)] ?_ rfl ?_))
                      · as_aux_lemma => kernel_rfl
                      refine ENDOPS (NEXT (RET (OUTR (PASS trivial (PASS trivial (OUTR (PASS trivial (OUTR (PASS trivial (FIN (.bool false) ?_ () ?_ [] ?_))))))))))
                      · as_aux_lemma => kernel_rfl
                      · (try simp [usedB] at *); simp_all [RV, actOk, noReq, reqEq, allKeep, usedB, List.length_pos_iff]
                      · rfl
                    · -- !(inB y58 0 20000) = false
                      have h60 := bh60
                      have h60 := notF h60
                      refine SKIP (OUTN (NEXT (REGION [0, 1] rfl (RUN0 1 [1] [(1, .p 0 0), (52, .v (.slice a_keep_a a.keep.length a_keep_c)), (53, I (a.keep.length : Int)), (61, I (wr ((k : Int) + 1)))] ?_ rfl ?_))))
                      · as_aux_lemma => kernel_rfl
                      refine CAST (d := 61) (vi (wr ((k : Int) + 1))) (vi ((k + 1 : Nat) : Int)) ?_ (vi_cast (by omega) (by omega)) ?_
                      · as_aux_lemma => kernel_rfl
                      refine RUN0 1 [] [(1, .p 0 0), (52, .v (.slice a_keep_a a.keep.length a_keep_c)), (53, I (a.keep.length : Int)), (54, I ((k + 1 : Nat) : Int))] ?_ rfl ?_
                      · as_aux_lemma => kernel_rfl
                      refine ENDOPS (BACK (k + 1, ys59) [1, 52, 53, 54] 1 [] _ ⟨hl_y58, hd_y58, hv0.trans (by simp [allKeep, *])⟩ (by simp) ?_ rfl rfl rfl)
                      · as_aux_lemma => kernel_rfl
                  · -- decide ((k : Int) < (a.keep.length : Int)) = false
                    have h57 := bh57
                    have h57 := of_decide_eq_false h57
                    obtain rfl := drop_nil hk (by omega)
                    refine EXIT (PASS trivial (PASS trivial (OUT (NEXT (SEQ (REGION [0, 1, 2, 3, 4] rfl (RUN0 5 [] [(2, B (decide ((a.keep.length : Int) ≤ 3)))] ?_ rfl ?_)))))))
                    · as_aux_lemma => kernel_rfl
                    refine ENDOPS (NEXT (RET (OUTR (PASS trivial (FIN (.bool (decide ((a.keep.length : Int) ≤ 3))) ?_ () ?_ [] ?_)))))
                    · as_aux_lemma => kernel_rfl
                    · (try simp [usedB] at *); simp_all [RV, actOk, noReq, reqEq, allKeep, usedB, List.length_pos_iff]
                    · rfl
                · -- a.kind == 4 = false
                  have h56 := bh56
                  have h56 := ne_of_beq_false h56
                  refine SKIP (OUTN (NEXT (SEQ (REGION [0] rfl (RUN0 1 [] [(2, B false)] ?_ rfl ?_)))))
                  · as_aux_lemma => kernel_rfl
                  refine ENDOPS (NEXT (RET (FIN (.bool false) ?_ () ?_ [] ?_)))
                  · as_aux_lemma => kernel_rfl
                  · (try simp [usedB] at *); simp_all [RV, actOk, noReq, reqEq, allKeep, usedB, List.length_pos_iff]
                  · rfl
    · -- a.kind != 3 = false
      have h41 := bh41
      have h41 := bneF h41
      refine RUN0 10 [24, 25, 26, 27, 28, 29] [(1, .p 0 0), (24, B false), (28, B (a.kind != 4))] ?_ rfl ?_
      · as_aux_lemma => kernel_rfl
      refine SPLIT (d := 28) (a.kind != 4) ?_ (fun bh61 => ?_) (fun bh61 => ?_)
      · as_aux_lemma => kernel_rfl
      · -- a.kind != 4 = true
        have h61 := bh61
        have h61 := bne_iff_ne.1 h61
        refine RUN0 6 [] [(1, .p 0 0), (34, B (decide ((a.keep.length : Int) > 0)))] ?_ rfl ?_
        · as_aux_lemma => kernel_rfl
        refine ENDOPS (NEXT (IF (decide ((a.keep.length : Int) > 0)) ?_ (fun bh62 => ?_) (fun bh62 => ?_)))
        · as_aux_lemma => kernel_rfl
        · -- decide ((a.keep.length : Int) > 0) = true
          have h62 := bh62
          have h62 := of_decide_eq_true h62
          refine SEQ (REGION [0] rfl (RUN0 1 [] [(2, B false)] ?_ rfl ?_))
          · as_aux_lemma => kernel_rfl
          refine ENDOPS (NEXT (RET (PASS trivial (FIN (.bool false) ?_ () ?_ [] ?_))))
          · as_aux_lemma => kernel_rfl
          · (try simp [usedB] at *); simp_all [RV, actOk, noReq, reqEq, allKeep, usedB, List.length_pos_iff]
          · rfl
        · -- decide ((a.keep.length : Int) > 0) = false
          have h62 := bh62
          have h62 := of_decide_eq_false h62
          refine SKIP (NEXT (SEQ (SEQ (REGION [0, 1] rfl (RUN0 2 [] [(1, .p 0 0), (36, I a.kind)] ?_ rfl ?_)))))
          · as_aux_lemma => kernel_rfl
          refine ENDOPS (NEXT (BLOCK (SEQ (REGION [0, 1] rfl (RUN0 2 [] [(1, .p 0 0), (36, I a.kind), (37, B (a.kind == 1))] ?_ rfl ?_)))))
          · as_aux_lemma => kernel_rfl
          refine ENDOPS (NEXT (IF (a.kind == 1) ?_ (fun bh63 => ?_) (fun bh63 => ?_)))
          · as_aux_lemma => kernel_rfl
          · -- a.kind == 1 = true
            have h63 := bh63
            have h63 := eq_of_beq h63
            refine SEQ (REGION [0, 1, 2, 3] rfl (RUN0 2 [2, 3] [(40, .v (.agg #[vi a.req.kind, vi a.req.id, vi a.req.cabin, vi a.req.from', vi a.req.size, vi a.req.tier]))] ?_ rfl ?_))
            · as_aux_lemma => kernel_rfl
            refine OPC (CALL 35 #[.agg #[vi a.req.kind, vi a.req.id, vi a.req.cabin, vi a.req.from', vi a.req.size, vi a.req.tier]] (some 41) ?_ [] [] _ rfl (RV (.bool (reqOk a.req))) (fun w hw => iReqOk_c w a.req) (by rintro _ ⟨⟩; exact Nat.le_of_ble_eq_true rfl) ?_)
            · as_aux_lemma => kernel_rfl
            rintro ⟨⟩
            refine RUN0 1 [] [(2, B (reqOk a.req))] ?_ rfl ?_
            · as_aux_lemma => kernel_rfl
            refine ENDOPS (NEXT (RET (OUTR (PASS trivial (FIN (.bool (reqOk a.req)) ?_ () ?_ [] ?_)))))
            · as_aux_lemma => kernel_rfl
            · (try simp [usedB] at *); simp_all [RV, actOk, noReq, reqEq, allKeep, usedB, List.length_pos_iff]
            · rfl
          · -- a.kind == 1 = false
            have h63 := bh63
            have h63 := ne_of_beq_false h63
            refine SEQ (REGION [0, 1] rfl (RUN0 2 [] [(1, .p 0 0), (36, I a.kind), (42, B (a.kind == 2))] ?_ rfl ?_))
            · as_aux_lemma => kernel_rfl
            refine ENDOPS (NEXT (IF (a.kind == 2) ?_ (fun bh64 => ?_) (fun bh64 => ?_)))
            · as_aux_lemma => kernel_rfl
            · -- a.kind == 2 = true
              have h64 := bh64
              have h64 := eq_of_beq h64
              refine SEQ (REGION [0] rfl (RUN0 1 [] [(2, B true)] ?_ rfl ?_))
              · as_aux_lemma => kernel_rfl
              refine ENDOPS (NEXT (RET (OUTR (PASS trivial (FIN (.bool true) ?_ () ?_ [] ?_)))))
              · as_aux_lemma => kernel_rfl
              · (try simp [usedB] at *); simp_all [RV, actOk, noReq, reqEq, allKeep, usedB, List.length_pos_iff]
              · rfl
            · -- a.kind == 2 = false
              have h64 := bh64
              have h64 := ne_of_beq_false h64
              refine SEQ (REGION [0, 1] rfl (RUN0 2 [] [(1, .p 0 0), (36, I a.kind), (44, B (a.kind == 3))] ?_ rfl ?_))
              · as_aux_lemma => kernel_rfl
              refine ENDOPS (NEXT (IF (a.kind == 3) ?_ (fun bh65 => ?_) (fun bh65 => ?_)))
              · as_aux_lemma => kernel_rfl
              · -- a.kind == 3 = true
                have h65 := bh65
                have h65 := eq_of_beq h65
                refine SEQ (REGION [0, 1, 2, 3] rfl (RUN0 2 [2, 3] [(47, I a.n)] ?_ rfl ?_))
                · as_aux_lemma => kernel_rfl
                refine OPC (CALL 26 #[vi a.n, vi 0, vi 9999] (some 48) ?_ [] [] _ rfl (RV (.bool (inB a.n 0 9999))) (fun w hw => within_c w a.n 0 9999) (by rintro _ ⟨⟩; exact Nat.le_of_ble_eq_true rfl) ?_)
                · as_aux_lemma => kernel_rfl
                rintro ⟨⟩
                refine RUN0 1 [] [(2, B (inB a.n 0 9999))] ?_ rfl ?_
                · as_aux_lemma => kernel_rfl
                refine ENDOPS (NEXT (RET (OUTR (PASS trivial (FIN (.bool (inB a.n 0 9999)) ?_ () ?_ [] ?_)))))
                · as_aux_lemma => kernel_rfl
                · (try simp [usedB] at *); simp_all [RV, actOk, noReq, reqEq, allKeep, usedB, List.length_pos_iff]
                · rfl
              · -- a.kind == 3 = false
                have h65 := bh65
                have h65 := ne_of_beq_false h65
                refine SEQ (REGION [0, 1] rfl (RUN0 2 [] [(1, .p 0 0), (49, B (a.kind == 4))] ?_ rfl ?_))
                · as_aux_lemma => kernel_rfl
                refine ENDOPS (NEXT (IF (a.kind == 4) ?_ (fun bh66 => ?_) (fun bh66 => ?_)))
                · as_aux_lemma => kernel_rfl
                · -- a.kind == 4 = true
                  have h66 := bh66
                  have h66 := eq_of_beq h66
                  refine SEQ (SEQ (REGION [0, 1, 2, 3] rfl (RUN0 4 [] [(1, .p 0 0), (52, .v (.slice a_keep_a a.keep.length a_keep_c)), (53, I (a.keep.length : Int)), (54, I 0)] ?_ rfl ?_)))
                  · as_aux_lemma => kernel_rfl
                  refine ENDOPS (NEXT (BLOCK (LOOP (ι := Nat × (List Int)) (fun j => [(1, .p 0 0), (52, .v (.slice a_keep_a a.keep.length a_keep_c)), (53, I (a.keep.length : Int)), (54, I (j.1 : Int))]) (fun j => [(43, [vi a.kind, vi a.req.kind, vi a.req.id, vi a.req.cabin, vi a.req.from', vi a.req.size, vi a.req.tier, vi a.n, .slice a_keep_a a.keep.length a_keep_c])]) (fun j => []) (fun j => j.1 + j.2.length = a.keep.length ∧ a.keep.drop j.1 = j.2 ∧ allKeep a.keep = allKeep j.2) (fun j => j.2.length) (0, a.keep) [1, 52, 53, 54] ⟨by simp, rfl, rfl⟩ ?_ rfl rfl ?_)))
                  · as_aux_lemma => kernel_rfl
                  rintro ⟨k, ys⟩ ⟨hk, hd, hv0⟩
                  dsimp only at hk hd hv0
                  refine SEQ (REGION [0] rfl (RUN0 1 [] [(1, .p 0 0), (52, .v (.slice a_keep_a a.keep.length a_keep_c)), (53, I (a.keep.length : Int)), (54, I (k : Int)), (55, B (decide ((k : Int) < (a.keep.length : Int))))] ?_ rfl ?_))
                  · as_aux_lemma => kernel_rfl
                  refine ENDOPS (NEXT (SEQ (IF (decide ((k : Int) < (a.keep.length : Int))) ?_ (fun bh67 => ?_) (fun bh67 => ?_))))
                  · as_aux_lemma => kernel_rfl
                  · -- decide ((k : Int) < (a.keep.length : Int)) = true
                    have h67 := bh67
                    have h67 := of_decide_eq_true h67
                    obtain ⟨y68, ys69, rfl, hx_y68, hd_y68, hl_y68⟩ := drop_cons hd hk (by omega)
                    refine SKIP (NEXT (SEQ (BLOCK (SEQ (REGION [0, 1, 2] rfl (OPC (INDEX 24 (.tmp 52) (.tmp 54) 56 0 ?_ (Nat.le_of_ble_eq_true rfl) a_keep_a a.keep.length a_keep_c .i64 (k : Int) 3 1 ?_ ?_ ?_ ?_ (Rd.some ha_keep (by omega)) (by omega) (by omega) ?_)))))))
                    · as_aux_lemma => kernel_rfl
                    · as_aux_lemma => kernel_rfl
                    · as_aux_lemma => kernel_rfl
                    · as_aux_lemma => kernel_rfl
                    · as_aux_lemma => kernel_rfl
                    refine OPC (LOADE 3 (.tmp 56) 57 3 ?_ (Nat.le_of_ble_eq_true rfl) a_keep_a (k * 1) 0 [vi y68] (vi y68) ?_ (fun w hw => (ha_keep.fr hw.fr).flat hx_y68) ?_ ?_)
                    · as_aux_lemma => kernel_rfl
                    · as_aux_lemma => kernel_rfl
                    · as_aux_lemma => kernel_rfl
                    refine RUN0 1 [] [(1, .p 0 0), (4, I y68), (52, .v (.slice a_keep_a a.keep.length a_keep_c)), (53, I (a.keep.length : Int)), (54, I (k : Int))] ?_ rfl ?_
                    · as_aux_lemma => kernel_rfl
                    refine ENDOPS (NEXT (SEQ (REGION [0, 1, 2] rfl (RUN0 1 [1, 2] [(1, .p 0 0), (52, .v (.slice a_keep_a a.keep.length a_keep_c)), (53, I (a.keep.length : Int)), (54, I (k : Int)), (58, I y68)] ?_ rfl ?_))))
                    · as_aux_lemma => kernel_rfl
                    refine OPC (CALL 26 #[vi y68, vi 0, vi 20000] (some 59) ?_ [] [] _ rfl (RV (.bool (inB y68 0 20000))) (fun w hw => within_c w y68 0 20000) (by rintro _ ⟨⟩; exact Nat.le_of_ble_eq_true rfl) ?_)
                    · as_aux_lemma => kernel_rfl
                    rintro ⟨⟩
                    refine RUN0 1 [] [(1, .p 0 0), (52, .v (.slice a_keep_a a.keep.length a_keep_c)), (53, I (a.keep.length : Int)), (54, I (k : Int)), (60, B (!(inB y68 0 20000)))] ?_ rfl ?_
                    · as_aux_lemma => kernel_rfl
                    refine ENDOPS (NEXT (IF (!(inB y68 0 20000)) ?_ (fun bh70 => ?_) (fun bh70 => ?_)))
                    · as_aux_lemma => kernel_rfl
                    · -- !(inB y68 0 20000) = true
                      have h70 := bh70
                      have h70 := notT h70
                      refine SEQ (REGION [0] rfl (RUN0 1 [] [(2, B false)] ?_ rfl ?_))
                      · as_aux_lemma => kernel_rfl
                      refine ENDOPS (NEXT (RET (OUTR (PASS trivial (PASS trivial (OUTR (PASS trivial (OUTR (PASS trivial (FIN (.bool false) ?_ () ?_ [] ?_))))))))))
                      · as_aux_lemma => kernel_rfl
                      · (try simp [usedB] at *); simp_all [RV, actOk, noReq, reqEq, allKeep, usedB, List.length_pos_iff]
                      · rfl
                    · -- !(inB y68 0 20000) = false
                      have h70 := bh70
                      have h70 := notF h70
                      refine SKIP (OUTN (NEXT (REGION [0, 1] rfl (RUN0 1 [1] [(1, .p 0 0), (52, .v (.slice a_keep_a a.keep.length a_keep_c)), (53, I (a.keep.length : Int)), (61, I (wr ((k : Int) + 1)))] ?_ rfl ?_))))
                      · as_aux_lemma => kernel_rfl
                      refine CAST (d := 61) (vi (wr ((k : Int) + 1))) (vi ((k + 1 : Nat) : Int)) ?_ (vi_cast (by omega) (by omega)) ?_
                      · as_aux_lemma => kernel_rfl
                      refine RUN0 1 [] [(1, .p 0 0), (52, .v (.slice a_keep_a a.keep.length a_keep_c)), (53, I (a.keep.length : Int)), (54, I ((k + 1 : Nat) : Int))] ?_ rfl ?_
                      · as_aux_lemma => kernel_rfl
                      refine ENDOPS (BACK (k + 1, ys69) [1, 52, 53, 54] 1 [] _ ⟨hl_y68, hd_y68, hv0.trans (by simp [allKeep, *])⟩ (by simp) ?_ rfl rfl rfl)
                      · as_aux_lemma => kernel_rfl
                  · -- decide ((k : Int) < (a.keep.length : Int)) = false
                    have h67 := bh67
                    have h67 := of_decide_eq_false h67
                    obtain rfl := drop_nil hk (by omega)
                    refine EXIT (PASS trivial (PASS trivial (OUT (NEXT (SEQ (REGION [0, 1, 2, 3, 4] rfl (RUN0 5 [] [(2, B (decide ((a.keep.length : Int) ≤ 3)))] ?_ rfl ?_)))))))
                    · as_aux_lemma => kernel_rfl
                    refine ENDOPS (NEXT (RET (OUTR (PASS trivial (FIN (.bool (decide ((a.keep.length : Int) ≤ 3))) ?_ () ?_ [] ?_)))))
                    · as_aux_lemma => kernel_rfl
                    · (try simp [usedB] at *); simp_all [RV, actOk, noReq, reqEq, allKeep, usedB, List.length_pos_iff]
                    · rfl
                · -- a.kind == 4 = false
                  have h66 := bh66
                  have h66 := ne_of_beq_false h66
                  refine SKIP (OUTN (NEXT (SEQ (REGION [0] rfl (RUN0 1 [] [(2, B false)] ?_ rfl ?_)))))
                  · as_aux_lemma => kernel_rfl
                  refine ENDOPS (NEXT (RET (FIN (.bool false) ?_ () ?_ [] ?_)))
                  · as_aux_lemma => kernel_rfl
                  · (try simp [usedB] at *); simp_all [RV, actOk, noReq, reqEq, allKeep, usedB, List.length_pos_iff]
                  · rfl
      · -- a.kind != 4 = false
        have h61 := bh61
        have h61 := bneF h61
        refine RUN0 6 [] [(1, .p 0 0), (34, B false)] ?_ rfl ?_
        · as_aux_lemma => kernel_rfl
        refine ENDOPS (NEXT (IFF ?_ ?_))
        · as_aux_lemma => kernel_rfl
        refine SKIP (NEXT (SEQ (SEQ (REGION [0, 1] rfl (RUN0 2 [] [(1, .p 0 0), (36, I a.kind)] ?_ rfl ?_)))))
        · as_aux_lemma => kernel_rfl
        refine ENDOPS (NEXT (BLOCK (SEQ (REGION [0, 1] rfl (RUN0 2 [] [(1, .p 0 0), (36, I a.kind), (37, B (a.kind == 1))] ?_ rfl ?_)))))
        · as_aux_lemma => kernel_rfl
        refine ENDOPS (NEXT (IF (a.kind == 1) ?_ (fun bh71 => ?_) (fun bh71 => ?_)))
        · as_aux_lemma => kernel_rfl
        · -- a.kind == 1 = true
          have h71 := bh71
          have h71 := eq_of_beq h71
          refine SEQ (REGION [0, 1, 2, 3] rfl (RUN0 2 [2, 3] [(40, .v (.agg #[vi a.req.kind, vi a.req.id, vi a.req.cabin, vi a.req.from', vi a.req.size, vi a.req.tier]))] ?_ rfl ?_))
          · as_aux_lemma => kernel_rfl
          refine OPC (CALL 35 #[.agg #[vi a.req.kind, vi a.req.id, vi a.req.cabin, vi a.req.from', vi a.req.size, vi a.req.tier]] (some 41) ?_ [] [] _ rfl (RV (.bool (reqOk a.req))) (fun w hw => iReqOk_c w a.req) (by rintro _ ⟨⟩; exact Nat.le_of_ble_eq_true rfl) ?_)
          · as_aux_lemma => kernel_rfl
          rintro ⟨⟩
          refine RUN0 1 [] [(2, B (reqOk a.req))] ?_ rfl ?_
          · as_aux_lemma => kernel_rfl
          refine ENDOPS (NEXT (RET (OUTR (PASS trivial (FIN (.bool (reqOk a.req)) ?_ () ?_ [] ?_)))))
          · as_aux_lemma => kernel_rfl
          · (try simp [usedB] at *); simp_all [RV, actOk, noReq, reqEq, allKeep, usedB, List.length_pos_iff]
          · rfl
        · -- a.kind == 1 = false
          have h71 := bh71
          have h71 := ne_of_beq_false h71
          refine SEQ (REGION [0, 1] rfl (RUN0 2 [] [(1, .p 0 0), (36, I a.kind), (42, B (a.kind == 2))] ?_ rfl ?_))
          · as_aux_lemma => kernel_rfl
          refine ENDOPS (NEXT (IF (a.kind == 2) ?_ (fun bh72 => ?_) (fun bh72 => ?_)))
          · as_aux_lemma => kernel_rfl
          · -- a.kind == 2 = true
            have h72 := bh72
            have h72 := eq_of_beq h72
            refine SEQ (REGION [0] rfl (RUN0 1 [] [(2, B true)] ?_ rfl ?_))
            · as_aux_lemma => kernel_rfl
            refine ENDOPS (NEXT (RET (OUTR (PASS trivial (FIN (.bool true) ?_ () ?_ [] ?_)))))
            · as_aux_lemma => kernel_rfl
            · (try simp [usedB] at *); simp_all [RV, actOk, noReq, reqEq, allKeep, usedB, List.length_pos_iff]
            · rfl
          · -- a.kind == 2 = false
            have h72 := bh72
            have h72 := ne_of_beq_false h72
            refine SEQ (REGION [0, 1] rfl (RUN0 2 [] [(1, .p 0 0), (36, I a.kind), (44, B (a.kind == 3))] ?_ rfl ?_))
            · as_aux_lemma => kernel_rfl
            refine ENDOPS (NEXT (IF (a.kind == 3) ?_ (fun bh73 => ?_) (fun bh73 => ?_)))
            · as_aux_lemma => kernel_rfl
            · -- a.kind == 3 = true
              have h73 := bh73
              have h73 := eq_of_beq h73
              refine SEQ (REGION [0, 1, 2, 3] rfl (RUN0 2 [2, 3] [(47, I a.n)] ?_ rfl ?_))
              · as_aux_lemma => kernel_rfl
              refine OPC (CALL 26 #[vi a.n, vi 0, vi 9999] (some 48) ?_ [] [] _ rfl (RV (.bool (inB a.n 0 9999))) (fun w hw => within_c w a.n 0 9999) (by rintro _ ⟨⟩; exact Nat.le_of_ble_eq_true rfl) ?_)
              · as_aux_lemma => kernel_rfl
              rintro ⟨⟩
              refine RUN0 1 [] [(2, B (inB a.n 0 9999))] ?_ rfl ?_
              · as_aux_lemma => kernel_rfl
              refine ENDOPS (NEXT (RET (OUTR (PASS trivial (FIN (.bool (inB a.n 0 9999)) ?_ () ?_ [] ?_)))))
              · as_aux_lemma => kernel_rfl
              · (try simp [usedB] at *); simp_all [RV, actOk, noReq, reqEq, allKeep, usedB, List.length_pos_iff]
              · rfl
            · -- a.kind == 3 = false
              have h73 := bh73
              have h73 := ne_of_beq_false h73
              refine SEQ (REGION [0, 1] rfl (RUN0 2 [] [(1, .p 0 0), (49, B (a.kind == 4))] ?_ rfl ?_))
              · as_aux_lemma => kernel_rfl
              refine ENDOPS (NEXT (IF (a.kind == 4) ?_ (fun bh74 => ?_) (fun bh74 => ?_)))
              · as_aux_lemma => kernel_rfl
              · -- a.kind == 4 = true
                have h74 := bh74
                have h74 := eq_of_beq h74
                refine SEQ (SEQ (REGION [0, 1, 2, 3] rfl (RUN0 4 [] [(1, .p 0 0), (52, .v (.slice a_keep_a a.keep.length a_keep_c)), (53, I (a.keep.length : Int)), (54, I 0)] ?_ rfl ?_)))
                · as_aux_lemma => kernel_rfl
                refine ENDOPS (NEXT (BLOCK (LOOP (ι := Nat × (List Int)) (fun j => [(1, .p 0 0), (52, .v (.slice a_keep_a a.keep.length a_keep_c)), (53, I (a.keep.length : Int)), (54, I (j.1 : Int))]) (fun j => [(43, [vi a.kind, vi a.req.kind, vi a.req.id, vi a.req.cabin, vi a.req.from', vi a.req.size, vi a.req.tier, vi a.n, .slice a_keep_a a.keep.length a_keep_c])]) (fun j => []) (fun j => j.1 + j.2.length = a.keep.length ∧ a.keep.drop j.1 = j.2 ∧ allKeep a.keep = allKeep j.2) (fun j => j.2.length) (0, a.keep) [1, 52, 53, 54] ⟨by simp, rfl, rfl⟩ ?_ rfl rfl ?_)))
                · as_aux_lemma => kernel_rfl
                rintro ⟨k, ys⟩ ⟨hk, hd, hv0⟩
                dsimp only at hk hd hv0
                refine SEQ (REGION [0] rfl (RUN0 1 [] [(1, .p 0 0), (52, .v (.slice a_keep_a a.keep.length a_keep_c)), (53, I (a.keep.length : Int)), (54, I (k : Int)), (55, B (decide ((k : Int) < (a.keep.length : Int))))] ?_ rfl ?_))
                · as_aux_lemma => kernel_rfl
                refine ENDOPS (NEXT (SEQ (IF (decide ((k : Int) < (a.keep.length : Int))) ?_ (fun bh75 => ?_) (fun bh75 => ?_))))
                · as_aux_lemma => kernel_rfl
                · -- decide ((k : Int) < (a.keep.length : Int)) = true
                  have h75 := bh75
                  have h75 := of_decide_eq_true h75
                  obtain ⟨y76, ys77, rfl, hx_y76, hd_y76, hl_y76⟩ := drop_cons hd hk (by omega)
                  refine SKIP (NEXT (SEQ (BLOCK (SEQ (REGION [0, 1, 2] rfl (OPC (INDEX 24 (.tmp 52) (.tmp 54) 56 0 ?_ (Nat.le_of_ble_eq_true rfl) a_keep_a a.keep.length a_keep_c .i64 (k : Int) 3 1 ?_ ?_ ?_ ?_ (Rd.some ha_keep (by omega)) (by omega) (by omega) ?_)))))))
                  · as_aux_lemma => kernel_rfl
                  · as_aux_lemma => kernel_rfl
                  · as_aux_lemma => kernel_rfl
                  · as_aux_lemma => kernel_rfl
                  · as_aux_lemma => kernel_rfl
                  refine OPC (LOADE 3 (.tmp 56) 57 3 ?_ (Nat.le_of_ble_eq_true rfl) a_keep_a (k * 1) 0 [vi y76] (vi y76) ?_ (fun w hw => (ha_keep.fr hw.fr).flat hx_y76) ?_ ?_)
                  · as_aux_lemma => kernel_rfl
                  · as_aux_lemma => kernel_rfl
                  · as_aux_lemma => kernel_rfl
                  refine RUN0 1 [] [(1, .p 0 0), (4, I y76), (52, .v (.slice a_keep_a a.keep.length a_keep_c)), (53, I (a.keep.length : Int)), (54, I (k : Int))] ?_ rfl ?_
                  · as_aux_lemma => kernel_rfl
                  refine ENDOPS (NEXT (SEQ (REGION [0, 1, 2] rfl (RUN0 1 [1, 2] [(1, .p 0 0), (52, .v (.slice a_keep_a a.keep.length a_keep_c)), (53, I (a.keep.length : Int)), (54, I (k : Int)), (58, I y76)] ?_ rfl ?_))))
                  · as_aux_lemma => kernel_rfl
                  refine OPC (CALL 26 #[vi y76, vi 0, vi 20000] (some 59) ?_ [] [] _ rfl (RV (.bool (inB y76 0 20000))) (fun w hw => within_c w y76 0 20000) (by rintro _ ⟨⟩; exact Nat.le_of_ble_eq_true rfl) ?_)
                  · as_aux_lemma => kernel_rfl
                  rintro ⟨⟩
                  refine RUN0 1 [] [(1, .p 0 0), (52, .v (.slice a_keep_a a.keep.length a_keep_c)), (53, I (a.keep.length : Int)), (54, I (k : Int)), (60, B (!(inB y76 0 20000)))] ?_ rfl ?_
                  · as_aux_lemma => kernel_rfl
                  refine ENDOPS (NEXT (IF (!(inB y76 0 20000)) ?_ (fun bh78 => ?_) (fun bh78 => ?_)))
                  · as_aux_lemma => kernel_rfl
                  · -- !(inB y76 0 20000) = true
                    have h78 := bh78
                    have h78 := notT h78
                    refine SEQ (REGION [0] rfl (RUN0 1 [] [(2, B false)] ?_ rfl ?_))
                    · as_aux_lemma => kernel_rfl
                    refine ENDOPS (NEXT (RET (OUTR (PASS trivial (PASS trivial (OUTR (PASS trivial (OUTR (PASS trivial (FIN (.bool false) ?_ () ?_ [] ?_))))))))))
                    · as_aux_lemma => kernel_rfl
                    · (try simp [usedB] at *); simp_all [RV, actOk, noReq, reqEq, allKeep, usedB, List.length_pos_iff]
                    · rfl
                  · -- !(inB y76 0 20000) = false
                    have h78 := bh78
                    have h78 := notF h78
                    refine SKIP (OUTN (NEXT (REGION [0, 1] rfl (RUN0 1 [1] [(1, .p 0 0), (52, .v (.slice a_keep_a a.keep.length a_keep_c)), (53, I (a.keep.length : Int)), (61, I (wr ((k : Int) + 1)))] ?_ rfl ?_))))
                    · as_aux_lemma => kernel_rfl
                    refine CAST (d := 61) (vi (wr ((k : Int) + 1))) (vi ((k + 1 : Nat) : Int)) ?_ (vi_cast (by omega) (by omega)) ?_
                    · as_aux_lemma => kernel_rfl
                    refine RUN0 1 [] [(1, .p 0 0), (52, .v (.slice a_keep_a a.keep.length a_keep_c)), (53, I (a.keep.length : Int)), (54, I ((k + 1 : Nat) : Int))] ?_ rfl ?_
                    · as_aux_lemma => kernel_rfl
                    refine ENDOPS (BACK (k + 1, ys77) [1, 52, 53, 54] 1 [] _ ⟨hl_y76, hd_y76, hv0.trans (by simp [allKeep, *])⟩ (by simp) ?_ rfl rfl rfl)
                    · as_aux_lemma => kernel_rfl
                · -- decide ((k : Int) < (a.keep.length : Int)) = false
                  have h75 := bh75
                  have h75 := of_decide_eq_false h75
                  obtain rfl := drop_nil hk (by omega)
                  refine EXIT (PASS trivial (PASS trivial (OUT (NEXT (SEQ (REGION [0, 1, 2, 3, 4] rfl (RUN0 5 [] [(2, B (decide ((a.keep.length : Int) ≤ 3)))] ?_ rfl ?_)))))))
                  · as_aux_lemma => kernel_rfl
                  refine ENDOPS (NEXT (RET (OUTR (PASS trivial (FIN (.bool (decide ((a.keep.length : Int) ≤ 3))) ?_ () ?_ [] ?_)))))
                  · as_aux_lemma => kernel_rfl
                  · (try simp [usedB] at *); simp_all [RV, actOk, noReq, reqEq, allKeep, usedB, List.length_pos_iff]
                  · rfl
              · -- a.kind == 4 = false
                have h74 := bh74
                have h74 := ne_of_beq_false h74
                refine SKIP (OUTN (NEXT (SEQ (REGION [0] rfl (RUN0 1 [] [(2, B false)] ?_ rfl ?_)))))
                · as_aux_lemma => kernel_rfl
                refine ENDOPS (NEXT (RET (FIN (.bool false) ?_ () ?_ [] ?_)))
                · as_aux_lemma => kernel_rfl
                · (try simp [usedB] at *); simp_all [RV, actOk, noReq, reqEq, allKeep, usedB, List.length_pos_iff]
                · rfl

theorem exActOk_c (W : World) (aA : Act) (aA_keep_a : Option Addr) (aA_keep_c : Nat) (haA_keep : Rd intL W aA_keep_a aA.keep) : Spec Try.prog W [] 6 #[.agg #[vi aA.kind, vi aA.req.kind, vi aA.req.id, vi aA.req.cabin, vi aA.req.from', vi aA.req.size, vi aA.req.tier, vi aA.n, .slice aA_keep_a aA.keep.length aA_keep_c]] (RV (.bool true)) := by
  refine ENTER0 (N := 27) (vs := [.agg #[vi aA.kind, vi aA.req.kind, vi aA.req.id, vi aA.req.cabin, vi aA.req.from', vi aA.req.size, vi aA.req.tier, vi aA.n, .slice aA_keep_a aA.keep.length aA_keep_c]]) Try.func6 rfl rfl (Nat.le_of_ble_eq_true rfl) ?_
  have haA_keep_len := haA_keep.len
  refine SEQ (REGION [0, 1] rfl (RUN 2 [] [(1, .p 0 0)] [(38, [vi aA.kind, vi aA.req.kind, vi aA.req.id, vi aA.req.cabin, vi aA.req.from', vi aA.req.size, vi aA.req.tier, vi aA.n, .slice aA_keep_a aA.keep.length aA_keep_c])] ?_ rfl ?_))
  · as_aux_lemma => kernel_rfl
  refine ENDOPS (NEXT (SEQ (REGION [0] rfl (RUN0 1 [] [(1, .p 0 0), (3, I 1048576)] ?_ rfl ?_))))
  · as_aux_lemma => kernel_rfl
  refine ENDOPS (NEXT (SEQ (REGION [0, 1, 2, 3] rfl (RUN0 2 [2, 3] [(1, .p 0 0), (7, .v (.agg #[vi aA.kind, vi aA.req.kind, vi aA.req.id, vi aA.req.cabin, vi aA.req.from', vi aA.req.size, vi aA.req.tier, vi aA.n, .slice aA_keep_a aA.keep.length aA_keep_c])), (8, I 1048576)] ?_ rfl ?_))))
  · as_aux_lemma => kernel_rfl
  refine OPC (CALL 17 #[.agg #[vi aA.kind, vi aA.req.kind, vi aA.req.id, vi aA.req.cabin, vi aA.req.from', vi aA.req.size, vi aA.req.tier, vi aA.n, .slice aA_keep_a aA.keep.length aA_keep_c], vi 1048576] (some 9) ?_ [] [] _ rfl (RV (vi (szAct aA 1048576))) (fun w hw => szAct_c w aA aA_keep_a aA_keep_c (haA_keep.fr hw.fr) 1048576) (by rintro _ ⟨⟩; exact Nat.le_of_ble_eq_true rfl) ?_)
  · as_aux_lemma => kernel_rfl
  rintro ⟨⟩
  refine RUN0 1 [] [(1, .p 0 0), (3, I (szAct aA 1048576))] ?_ rfl ?_
  · as_aux_lemma => kernel_rfl
  refine ENDOPS (NEXT (SEQ (SEQ (REGION [0, 1] rfl (RUN0 2 [] [(1, .p 0 0), (11, B (decide ((szAct aA 1048576) < 0)))] ?_ rfl ?_)))))
  · as_aux_lemma => kernel_rfl
  refine ENDOPS (NEXT (IF (decide ((szAct aA 1048576) < 0)) ?_ (fun bh1 => ?_) (fun bh1 => ?_)))
  · as_aux_lemma => kernel_rfl
  · -- decide ((szAct aA 1048576) < 0) = true
    have h1 := bh1
    have h1 := of_decide_eq_true h1
    refine SEQ (REGION [0] rfl (RUN0 1 [] [(2, B true)] ?_ rfl ?_))
    · as_aux_lemma => kernel_rfl
    refine ENDOPS (NEXT (RET (PASS trivial (FIN (.bool true) ?_ () ?_ [] ?_))))
    · as_aux_lemma => kernel_rfl
    · simp_all [RV, eqAct_refl]
    · rfl
  · -- decide ((szAct aA 1048576) < 0) = false
    have h1 := bh1
    have h1 := of_decide_eq_false h1
    have hb := szAct_len haA_keep_len h1
    refine SKIP (NEXT (SEQ (REGION [0, 1, 2, 3] rfl (RUN0 1 [1, 2, 3] [(1, .p 0 0), (12, .v (.agg #[vi aA.kind, vi aA.req.kind, vi aA.req.id, vi aA.req.cabin, vi aA.req.from', vi aA.req.size, vi aA.req.tier, vi aA.n, .slice aA_keep_a aA.keep.length aA_keep_c]))] ?_ rfl ?_))))
    · as_aux_lemma => kernel_rfl
    refine OPC (CALL 19 #[.agg #[vi aA.kind, vi aA.req.kind, vi aA.req.id, vi aA.req.cabin, vi aA.req.from', vi aA.req.size, vi aA.req.tier, vi aA.n, .slice aA_keep_a aA.keep.length aA_keep_c]] (some 13) ?_ [] [] _ rfl (⟨HH, fun p => .agg #[vi aA.kind, vi aA.req.kind, vi aA.req.id, vi aA.req.cabin, vi aA.req.from', vi aA.req.size, vi aA.req.tier, vi aA.n, .slice p.1 aA.keep.length p.2], fun p => [slA 3 intL (.slice p.1 aA.keep.length p.2) aA.keep]⟩) (fun w hw => toAct_c w aA aA_keep_a aA_keep_c (haA_keep.fr hw.fr) (by omega)) (by rintro _ ⟨⟩; exact Nat.le_of_ble_eq_true rfl) ?_)
    · as_aux_lemma => kernel_rfl
    rintro ⟨a2, c3⟩
    refine OPC (CALL 18 #[.agg #[vi aA.kind, vi aA.req.kind, vi aA.req.id, vi aA.req.cabin, vi aA.req.from', vi aA.req.size, vi aA.req.tier, vi aA.n, .slice a2 aA.keep.length c3]] (some 14) ?_ [] [] _ rfl (RV (.bool (actOk aA))) (fun w hw => sActOk_c w aA a2 c3 (Rd.own (hw.own 0 rfl))) (by rintro _ ⟨⟩; exact Nat.le_of_ble_eq_true rfl) ?_)
    · as_aux_lemma => kernel_rfl
    rintro ⟨⟩
    refine RUN0 1 [] [(1, .p 0 0), (4, B (actOk aA))] ?_ rfl ?_
    · as_aux_lemma => kernel_rfl
    refine ENDOPS (NEXT (SEQ (REGION [0, 1, 2, 3] rfl (RUN0 1 [1, 2, 3] [(1, .p 0 0), (4, B (actOk aA)), (15, .v (.agg #[vi aA.kind, vi aA.req.kind, vi aA.req.id, vi aA.req.cabin, vi aA.req.from', vi aA.req.size, vi aA.req.tier, vi aA.n, .slice aA_keep_a aA.keep.length aA_keep_c]))] ?_ rfl ?_))))
    · as_aux_lemma => kernel_rfl
    refine OPC (CALL 19 #[.agg #[vi aA.kind, vi aA.req.kind, vi aA.req.id, vi aA.req.cabin, vi aA.req.from', vi aA.req.size, vi aA.req.tier, vi aA.n, .slice aA_keep_a aA.keep.length aA_keep_c]] (some 16) ?_ [] [] _ rfl (⟨HH, fun p => .agg #[vi aA.kind, vi aA.req.kind, vi aA.req.id, vi aA.req.cabin, vi aA.req.from', vi aA.req.size, vi aA.req.tier, vi aA.n, .slice p.1 aA.keep.length p.2], fun p => [slA 3 intL (.slice p.1 aA.keep.length p.2) aA.keep]⟩) (fun w hw => toAct_c w aA aA_keep_a aA_keep_c (haA_keep.fr hw.fr) (by omega)) (by rintro _ ⟨⟩; exact Nat.le_of_ble_eq_true rfl) ?_)
    · as_aux_lemma => kernel_rfl
    rintro ⟨a4, c5⟩
    refine RUN 2 [] [(1, .p 0 0), (4, B (actOk aA)), (5, .p 1 0)] [(38, [vi aA.kind, vi aA.req.kind, vi aA.req.id, vi aA.req.cabin, vi aA.req.from', vi aA.req.size, vi aA.req.tier, vi aA.n, .slice aA_keep_a aA.keep.length aA_keep_c]), (43, [vi aA.kind, vi aA.req.kind, vi aA.req.id, vi aA.req.cabin, vi aA.req.from', vi aA.req.size, vi aA.req.tier, vi aA.n, .slice a4 aA.keep.length c5])] ?_ rfl ?_
    · as_aux_lemma => kernel_rfl
    refine ENDOPS (NEXT (SEQ (REGION [0, 1, 2] rfl (RUN0 1 [1, 2] [(1, .p 0 0), (4, B (actOk aA)), (5, .p 1 0), (17, .v (.agg #[vi aA.kind, vi aA.req.kind, vi aA.req.id, vi aA.req.cabin, vi aA.req.from', vi aA.req.size, vi aA.req.tier, vi aA.n, .slice a4 aA.keep.length c5]))] ?_ rfl ?_))))
    · as_aux_lemma => kernel_rfl
    refine OPC (CALL 20 #[.agg #[vi aA.kind, vi aA.req.kind, vi aA.req.id, vi aA.req.cabin, vi aA.req.from', vi aA.req.size, vi aA.req.tier, vi aA.n, .slice a4 aA.keep.length c5]] (some 18) ?_ [] [] _ rfl (RV (.bool (actOk aA))) (fun w hw => iActOk_c w aA a4 c5 (Rd.own (hw.own 1 rfl))) (by rintro _ ⟨⟩; exact Nat.le_of_ble_eq_true rfl) ?_)
    · as_aux_lemma => kernel_rfl
    rintro ⟨⟩
    refine RUN0 1 [] [(1, .p 0 0), (4, B (actOk aA)), (5, .p 1 0), (6, B (actOk aA))] ?_ rfl ?_
    · as_aux_lemma => kernel_rfl
    refine ENDOPS (NEXT (SEQ (SEQ (REGION [0, 1, 2] rfl (RUN0 3 [] [(1, .p 0 0), (5, .p 1 0), (21, B (!((actOk aA) == (actOk aA))))] ?_ rfl ?_)))))
    · as_aux_lemma => kernel_rfl
    refine ENDOPS (NEXT (IF (!((actOk aA) == (actOk aA))) ?_ (fun bh6 => ?_) (fun bh6 => ?_)))
    · as_aux_lemma => kernel_rfl
    · -- !((actOk aA) == (actOk aA)) = true
      have h6 := bh6
      have h6 := notT h6
      have h6 := ne_of_beq_false h6
      refine SEQ (REGION [0] rfl (RUN0 1 [] [(2, B false)] ?_ rfl ?_))
      · as_aux_lemma => kernel_rfl
      refine ENDOPS (NEXT (RET (PASS trivial (FIN (.bool false) ?_ () ?_ [] ?_))))
      · as_aux_lemma => kernel_rfl
      · simp_all [RV, eqAct_refl]
      · rfl
    · -- !((actOk aA) == (actOk aA)) = false
      have h6 := bh6
      have h6 := notF h6
      have h6 := eq_of_beq h6
      refine SKIP (NEXT (SEQ (SEQ (REGIOND ?_ 5 rfl ?_))))
      · as_aux_lemma => kernel_rfl
      refine ANY2 0 1 ?_ ?_ ?_
      · as_aux_lemma => kernel_rfl
      · -- operation 0 next
        refine RUNO [(1, .p 0 0), (22, .v (.agg #[vi aA.kind, vi aA.req.kind, vi aA.req.id, vi aA.req.cabin, vi aA.req.from', vi aA.req.size, vi aA.req.tier, vi aA.n, .slice a4 aA.keep.length c5]))] [(38, [vi aA.kind, vi aA.req.kind, vi aA.req.id, vi aA.req.cabin, vi aA.req.from', vi aA.req.size, vi aA.req.tier, vi aA.n, .slice aA_keep_a aA.keep.length aA_keep_c]), (43, [vi aA.kind, vi aA.req.kind, vi aA.req.id, vi aA.req.cabin, vi aA.req.from', vi aA.req.size, vi aA.req.tier, vi aA.n, .slice a4 aA.keep.length c5])] ?_ ?_
        · as_aux_lemma => kernel_rfl
        refine ANY1 1 ?_ ?_
        · as_aux_lemma => kernel_rfl
        refine RUNO [(22, .v (.agg #[vi aA.kind, vi aA.req.kind, vi aA.req.id, vi aA.req.cabin, vi aA.req.from', vi aA.req.size, vi aA.req.tier, vi aA.n, .slice a4 aA.keep.length c5])), (23, .v (.agg #[vi aA.kind, vi aA.req.kind, vi aA.req.id, vi aA.req.cabin, vi aA.req.from', vi aA.req.size, vi aA.req.tier, vi aA.n, .slice aA_keep_a aA.keep.length aA_keep_c]))] [(38, [vi aA.kind, vi aA.req.kind, vi aA.req.id, vi aA.req.cabin, vi aA.req.from', vi aA.req.size, vi aA.req.tier, vi aA.n, .slice aA_keep_a aA.keep.length aA_keep_c]), (43, [vi aA.kind, vi aA.req.kind, vi aA.req.id, vi aA.req.cabin, vi aA.req.from', vi aA.req.size, vi aA.req.tier, vi aA.n, .slice a4 aA.keep.length c5])] ?_ ?_
        · as_aux_lemma => kernel_rfl
        refine ANY1 2 ?_ ?_
        · as_aux_lemma => kernel_rfl
        refine CALL 19 #[.agg #[vi aA.kind, vi aA.req.kind, vi aA.req.id, vi aA.req.cabin, vi aA.req.from', vi aA.req.size, vi aA.req.tier, vi aA.n, .slice aA_keep_a aA.keep.length aA_keep_c]] (some 24) ?_ [] [] _ rfl (⟨HH, fun p => .agg #[vi aA.kind, vi aA.req.kind, vi aA.req.id, vi aA.req.cabin, vi aA.req.from', vi aA.req.size, vi aA.req.tier, vi aA.n, .slice p.1 aA.keep.length p.2], fun p => [slA 3 intL (.slice p.1 aA.keep.length p.2) aA.keep]⟩) (fun w hw => toAct_c w aA aA_keep_a aA_keep_c (haA_keep.fr hw.fr) (by omega)) (by rintro _ ⟨⟩; exact Nat.le_of_ble_eq_true rfl) ?_
        · as_aux_lemma => kernel_rfl
        rintro ⟨a7, c8⟩
        refine ANY1 3 ?_ ?_
        · as_aux_lemma => kernel_rfl
        refine CALL 21 #[.agg #[vi aA.kind, vi aA.req.kind, vi aA.req.id, vi aA.req.cabin, vi aA.req.from', vi aA.req.size, vi aA.req.tier, vi aA.n, .slice a4 aA.keep.length c5], .agg #[vi aA.kind, vi aA.req.kind, vi aA.req.id, vi aA.req.cabin, vi aA.req.from', vi aA.req.size, vi aA.req.tier, vi aA.n, .slice a7 aA.keep.length c8]] (some 25) ?_ [] [] _ rfl (RV (.bool (eqAct aA aA))) (fun w hw => eqAct_c w aA a4 c5 (Rd.own (hw.own 1 rfl)) aA a7 c8 (Rd.own (hw.own 2 rfl))) (by rintro _ ⟨⟩; exact Nat.le_of_ble_eq_true rfl) ?_
        · as_aux_lemma => kernel_rfl
        rintro ⟨⟩
        refine ANY1 4 ?_ ?_
        · as_aux_lemma => kernel_rfl
        refine RUNO [(26, B (!(eqAct aA aA)))] [(38, [vi aA.kind, vi aA.req.kind, vi aA.req.id, vi aA.req.cabin, vi aA.req.from', vi aA.req.size, vi aA.req.tier, vi aA.n, .slice aA_keep_a aA.keep.length aA_keep_c]), (43, [vi aA.kind, vi aA.req.kind, vi aA.req.id, vi aA.req.cabin, vi aA.req.from', vi aA.req.size, vi aA.req.tier, vi aA.n, .slice a4 aA.keep.length c5])] ?_ ?_
        · as_aux_lemma => kernel_rfl
        refine ANYEND ?_ ?_
        · as_aux_lemma => kernel_rfl
        refine NEXT (IF (!(eqAct aA aA)) ?_ (fun bh9 => ?_) (fun bh9 => ?_))
        · as_aux_lemma => kernel_rfl
        · -- !(eqAct aA aA) = true
          have h9 := bh9
          have h9 := notT h9
          refine SEQ (REGION [0] rfl (RUN0 1 [] [(2, B false)] ?_ rfl ?_))
          · as_aux_lemma => kernel_rfl
          refine ENDOPS (NEXT (RET (PASS trivial (FIN (.bool false) ?_ () ?_ [] ?_))))
          · as_aux_lemma => kernel_rfl
          · simp_all [RV, eqAct_refl]
          · rfl
        · -- !(eqAct aA aA) = false
          have h9 := bh9
          have h9 := notF h9
          refine SKIP (NEXT (SEQ (REGION [0] rfl (RUN0 1 [] [(2, B true)] ?_ rfl ?_))))
          · as_aux_lemma => kernel_rfl
          refine ENDOPS (NEXT (RET (FIN (.bool true) ?_ () ?_ [] ?_)))
          · as_aux_lemma => kernel_rfl
          · simp_all [RV, eqAct_refl]
          · rfl
      · -- operation 1 next
        refine RUNO [(5, .p 1 0), (23, .v (.agg #[vi aA.kind, vi aA.req.kind, vi aA.req.id, vi aA.req.cabin, vi aA.req.from', vi aA.req.size, vi aA.req.tier, vi aA.n, .slice aA_keep_a aA.keep.length aA_keep_c]))] [(38, [vi aA.kind, vi aA.req.kind, vi aA.req.id, vi aA.req.cabin, vi aA.req.from', vi aA.req.size, vi aA.req.tier, vi aA.n, .slice aA_keep_a aA.keep.length aA_keep_c]), (43, [vi aA.kind, vi aA.req.kind, vi aA.req.id, vi aA.req.cabin, vi aA.req.from', vi aA.req.size, vi aA.req.tier, vi aA.n, .slice a4 aA.keep.length c5])] ?_ ?_
        · as_aux_lemma => kernel_rfl
        refine ANY2 0 2 ?_ ?_ ?_
        · as_aux_lemma => kernel_rfl
        · -- operation 0 next
          refine RUNO [(22, .v (.agg #[vi aA.kind, vi aA.req.kind, vi aA.req.id, vi aA.req.cabin, vi aA.req.from', vi aA.req.size, vi aA.req.tier, vi aA.n, .slice a4 aA.keep.length c5])), (23, .v (.agg #[vi aA.kind, vi aA.req.kind, vi aA.req.id, vi aA.req.cabin, vi aA.req.from', vi aA.req.size, vi aA.req.tier, vi aA.n, .slice aA_keep_a aA.keep.length aA_keep_c]))] [(38, [vi aA.kind, vi aA.req.kind, vi aA.req.id, vi aA.req.cabin, vi aA.req.from', vi aA.req.size, vi aA.req.tier, vi aA.n, .slice aA_keep_a aA.keep.length aA_keep_c]), (43, [vi aA.kind, vi aA.req.kind, vi aA.req.id, vi aA.req.cabin, vi aA.req.from', vi aA.req.size, vi aA.req.tier, vi aA.n, .slice a4 aA.keep.length c5])] ?_ ?_
          · as_aux_lemma => kernel_rfl
          refine ANY1 2 ?_ ?_
          · as_aux_lemma => kernel_rfl
          refine CALL 19 #[.agg #[vi aA.kind, vi aA.req.kind, vi aA.req.id, vi aA.req.cabin, vi aA.req.from', vi aA.req.size, vi aA.req.tier, vi aA.n, .slice aA_keep_a aA.keep.length aA_keep_c]] (some 24) ?_ [] [] _ rfl (⟨HH, fun p => .agg #[vi aA.kind, vi aA.req.kind, vi aA.req.id, vi aA.req.cabin, vi aA.req.from', vi aA.req.size, vi aA.req.tier, vi aA.n, .slice p.1 aA.keep.length p.2], fun p => [slA 3 intL (.slice p.1 aA.keep.length p.2) aA.keep]⟩) (fun w hw => toAct_c w aA aA_keep_a aA_keep_c (haA_keep.fr hw.fr) (by omega)) (by rintro _ ⟨⟩; exact Nat.le_of_ble_eq_true rfl) ?_
          · as_aux_lemma => kernel_rfl
          rintro ⟨a10, c11⟩
          refine ANY1 3 ?_ ?_
          · as_aux_lemma => kernel_rfl
          refine CALL 21 #[.agg #[vi aA.kind, vi aA.req.kind, vi aA.req.id, vi aA.req.cabin, vi aA.req.from', vi aA.req.size, vi aA.req.tier, vi aA.n, .slice a4 aA.keep.length c5], .agg #[vi aA.kind, vi aA.req.kind, vi aA.req.id, vi aA.req.cabin, vi aA.req.from', vi aA.req.size, vi aA.req.tier, vi aA.n, .slice a10 aA.keep.length c11]] (some 25) ?_ [] [] _ rfl (RV (.bool (eqAct aA aA))) (fun w hw => eqAct_c w aA a4 c5 (Rd.own (hw.own 1 rfl)) aA a10 c11 (Rd.own (hw.own 2 rfl))) (by rintro _ ⟨⟩; exact Nat.le_of_ble_eq_true rfl) ?_
          · as_aux_lemma => kernel_rfl
          rintro ⟨⟩
          refine ANY1 4 ?_ ?_
          · as_aux_lemma => kernel_rfl
          refine RUNO [(26, B (!(eqAct aA aA)))] [(38, [vi aA.kind, vi aA.req.kind, vi aA.req.id, vi aA.req.cabin, vi aA.req.from', vi aA.req.size, vi aA.req.tier, vi aA.n, .slice aA_keep_a aA.keep.length aA_keep_c]), (43, [vi aA.kind, vi aA.req.kind, vi aA.req.id, vi aA.req.cabin, vi aA.req.from', vi aA.req.size, vi aA.req.tier, vi aA.n, .slice a4 aA.keep.length c5])] ?_ ?_
          · as_aux_lemma => kernel_rfl
          refine ANYEND ?_ ?_
          · as_aux_lemma => kernel_rfl
          refine NEXT (IF (!(eqAct aA aA)) ?_ (fun bh12 => ?_) (fun bh12 => ?_))
          · as_aux_lemma => kernel_rfl
          · -- !(eqAct aA aA) = true
            have h12 := bh12
            have h12 := notT h12
            refine SEQ (REGION [0] rfl (RUN0 1 [] [(2, B false)] ?_ rfl ?_))
            · as_aux_lemma => kernel_rfl
            refine ENDOPS (NEXT (RET (PASS trivial (FIN (.bool false) ?_ () ?_ [] ?_))))
            · as_aux_lemma => kernel_rfl
            · simp_all [RV, eqAct_refl]
            · rfl
          · -- !(eqAct aA aA) = false
            have h12 := bh12
            have h12 := notF h12
            refine SKIP (NEXT (SEQ (REGION [0] rfl (RUN0 1 [] [(2, B true)] ?_ rfl ?_))))
            · as_aux_lemma => kernel_rfl
            refine ENDOPS (NEXT (RET (FIN (.bool true) ?_ () ?_ [] ?_)))
            · as_aux_lemma => kernel_rfl
            · simp_all [RV, eqAct_refl]
            · rfl
        · -- operation 2 next
          refine CALL 19 #[.agg #[vi aA.kind, vi aA.req.kind, vi aA.req.id, vi aA.req.cabin, vi aA.req.from', vi aA.req.size, vi aA.req.tier, vi aA.n, .slice aA_keep_a aA.keep.length aA_keep_c]] (some 24) ?_ [] [] _ rfl (⟨HH, fun p => .agg #[vi aA.kind, vi aA.req.kind, vi aA.req.id, vi aA.req.cabin, vi aA.req.from', vi aA.req.size, vi aA.req.tier, vi aA.n, .slice p.1 aA.keep.length p.2], fun p => [slA 3 intL (.slice p.1 aA.keep.length p.2) aA.keep]⟩) (fun w hw => toAct_c w aA aA_keep_a aA_keep_c (haA_keep.fr hw.fr) (by omega)) (by rintro _ ⟨⟩; exact Nat.le_of_ble_eq_true rfl) ?_
          · as_aux_lemma => kernel_rfl
          rintro ⟨a13, c14⟩
          refine ANY1 0 ?_ ?_
          · as_aux_lemma => kernel_rfl
          refine RUNO [(22, .v (.agg #[vi aA.kind, vi aA.req.kind, vi aA.req.id, vi aA.req.cabin, vi aA.req.from', vi aA.req.size, vi aA.req.tier, vi aA.n, .slice a4 aA.keep.length c5])), (24, .v (.agg #[vi aA.kind, vi aA.req.kind, vi aA.req.id, vi aA.req.cabin, vi aA.req.from', vi aA.req.size, vi aA.req.tier, vi aA.n, .slice a13 aA.keep.length c14]))] [(38, [vi aA.kind, vi aA.req.kind, vi aA.req.id, vi aA.req.cabin, vi aA.req.from', vi aA.req.size, vi aA.req.tier, vi aA.n, .slice aA_keep_a aA.keep.length aA_keep_c]), (43, [vi aA.kind, vi aA.req.kind, vi aA.req.id, vi aA.req.cabin, vi aA.req.from', vi aA.req.size, vi aA.req.tier, vi aA.n, .slice a4 aA.keep.length c5])] ?_ ?_
          · as_aux_lemma => kernel_rfl
          refine ANY1 3 ?_ ?_
          · as_aux_lemma => kernel_rfl
          refine CALL 21 #[.agg #[vi aA.kind, vi aA.req.kind, vi aA.req.id, vi aA.req.cabin, vi aA.req.from', vi aA.req.size, vi aA.req.tier, vi aA.n, .slice a4 aA.keep.length c5], .agg #[vi aA.kind, vi aA.req.kind, vi aA.req.id, vi aA.req.cabin, vi aA.req.from', vi aA.req.size, vi aA.req.tier, vi aA.n, .slice a13 aA.keep.length c14]] (some 25) ?_ [] [] _ rfl (RV (.bool (eqAct aA aA))) (fun w hw => eqAct_c w aA a4 c5 (Rd.own (hw.own 1 rfl)) aA a13 c14 (Rd.own (hw.own 2 rfl))) (by rintro _ ⟨⟩; exact Nat.le_of_ble_eq_true rfl) ?_
          · as_aux_lemma => kernel_rfl
          rintro ⟨⟩
          refine ANY1 4 ?_ ?_
          · as_aux_lemma => kernel_rfl
          refine RUNO [(26, B (!(eqAct aA aA)))] [(38, [vi aA.kind, vi aA.req.kind, vi aA.req.id, vi aA.req.cabin, vi aA.req.from', vi aA.req.size, vi aA.req.tier, vi aA.n, .slice aA_keep_a aA.keep.length aA_keep_c]), (43, [vi aA.kind, vi aA.req.kind, vi aA.req.id, vi aA.req.cabin, vi aA.req.from', vi aA.req.size, vi aA.req.tier, vi aA.n, .slice a4 aA.keep.length c5])] ?_ ?_
          · as_aux_lemma => kernel_rfl
          refine ANYEND ?_ ?_
          · as_aux_lemma => kernel_rfl
          refine NEXT (IF (!(eqAct aA aA)) ?_ (fun bh15 => ?_) (fun bh15 => ?_))
          · as_aux_lemma => kernel_rfl
          · -- !(eqAct aA aA) = true
            have h15 := bh15
            have h15 := notT h15
            refine SEQ (REGION [0] rfl (RUN0 1 [] [(2, B false)] ?_ rfl ?_))
            · as_aux_lemma => kernel_rfl
            refine ENDOPS (NEXT (RET (PASS trivial (FIN (.bool false) ?_ () ?_ [] ?_))))
            · as_aux_lemma => kernel_rfl
            · simp_all [RV, eqAct_refl]
            · rfl
          · -- !(eqAct aA aA) = false
            have h15 := bh15
            have h15 := notF h15
            refine SKIP (NEXT (SEQ (REGION [0] rfl (RUN0 1 [] [(2, B true)] ?_ rfl ?_))))
            · as_aux_lemma => kernel_rfl
            refine ENDOPS (NEXT (RET (FIN (.bool true) ?_ () ?_ [] ?_)))
            · as_aux_lemma => kernel_rfl
            · simp_all [RV, eqAct_refl]
            · rfl

end SX
end Go.Proofs.Ytcjaeedkhlnegaa
