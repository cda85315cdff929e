/- Walks, printed by program. -/
import Derived.Test.YtpdijcbgdalphaaDoorD1
namespace Go.Proofs.YtpdijcbgdalphaaDoor
namespace SX
open Go Go.RowKit
set_option linter.unusedVariables false
set_option linter.unusedSimpArgs false
set_option maxRecDepth 10000
theorem fnReplyLine_c (W : World) (code : List UInt8) (code_a : Option Addr) (code_c : Nat) (hcode : Rd byteL W code_a code) (htab : Tab Tryd.prog W) (hmx : MaxL Tryd.prog W) : Spec Tryd.prog W [] 5 #[.slice code_a code.length code_c] (RV (.bool true)) := by
  refine ENTER0 (N := 58) (vs := [.slice code_a code.length code_c]) Tryd.func5 rfl rfl (Nat.le_of_ble_eq_true rfl) ?_
  have hcode_len := hcode.len
  refine SEQ (REGION [0] rfl (RUN0 1 [] [(0, .v (.slice code_a code.length code_c))] ?_ rfl ?_))
  · as_aux_lemma => kernel_rfl
  refine ENDOPS (NEXT (SEQ (SEQ (REGION [0, 1] rfl (RUN0 1 [1] [(0, .v (.slice code_a code.length code_c)), (8, .v (.slice code_a code.length code_c))] ?_ rfl ?_)))))
  · as_aux_lemma => kernel_rfl
  refine OPC (CALL 18 #[.slice code_a code.length code_c] (some 9) ?_ [] [] _ rfl (RV (.bool (decide ((code.length : Int) > 1048576)))) (fun w hw => big_c w code code_a code_c (hcode.fr hw.fr)) (by rintro _ ⟨⟩; exact Nat.le_of_ble_eq_true rfl) ?_)
  · as_aux_lemma => kernel_rfl
  rintro ⟨⟩
  refine ENDOPS (NEXT (IF (decide ((code.length : Int) > 1048576)) ?_ (fun bh1 => ?_) (fun bh1 => ?_)))
  · as_aux_lemma => kernel_rfl
  · -- decide ((code.length : Int) > 1048576) = true
    have h1 := bh1
    have h1 := of_decide_eq_true h1
    refine SEQ (REGION [0] rfl (RUN0 1 [] [(2, B true)] ?_ rfl ?_))
    · as_aux_lemma => kernel_rfl
    refine ENDOPS (NEXT (RET (PASS trivial (FIN (.bool true) ?_ () ?_ [] ?_))))
    · as_aux_lemma => kernel_rfl
    · (first | rfl | (exfalso; simp_all; done) | (exfalso; rw [hw1] at *; omega) | (exfalso; have h9 := reply_head hid (by assumption); simp_all; done) | (exfalso; have h9 := reply_tail hid (by assumption) (by assumption); simp_all; done) | (exfalso; have h9 := reply_tail hid (by assumption) (by assumption); simp_all; omega))
    · rfl
  · -- decide ((code.length : Int) > 1048576) = false
    have h1 := bh1
    have h1 := of_decide_eq_false h1
    refine SKIP (NEXT (SEQ (REGION [0, 1, 2, 3] rfl (RUN0 1 [1, 2, 3] [(10, .v (.slice code_a code.length code_c))] ?_ rfl ?_))))
    · as_aux_lemma => kernel_rfl
    refine OPC (CALL 19 #[.slice code_a code.length code_c] (some 11) ?_ [] [] _ rfl (⟨{q : (HH) × Reply // (fun x : Reply => (∀ y ∈ x.ids, 0 ≤ y ∧ y < 13) ∧ x.ids.length ≤ 3) q.2}, fun q => .agg #[vi q.1.2.code, .slice q.1.1.1 q.1.2.ids.length q.1.1.2], fun q => [slA 3 intL (.slice q.1.1.1 q.1.2.ids.length q.1.1.2) q.1.2.ids]⟩) (fun w hw => drawReply_c w code code_a code_c (hcode.fr hw.fr)) (by rintro _ ⟨⟩; exact Nat.le_of_ble_eq_true rfl) ?_)
    · as_aux_lemma => kernel_rfl
    rintro ⟨⟨⟨a4, c5⟩, m2⟩, hm3⟩
    try dsimp only at hm3
    obtain ⟨hid, hil⟩ := hm3
    have hr : ∀ y ∈ m2.ids, i64R y := fun y hy => by have := hid y hy; omega
    have hpl := reply_len hid
    have hps := reply_short hid hil
    have hw1 : wr (1 + (m2.ids.length : Int)) = 1 + (m2.ids.length : Int) := wr_of (by omega) (by omega)
    refine RUN 2 [] [(3, .p 0 0)] [(27, [vi m2.code, .slice a4 m2.ids.length c5])] ?_ rfl ?_
    · as_aux_lemma => kernel_rfl
    refine ENDOPS (NEXT (SEQ (REGION [0, 1, 2, 3] rfl (RUN0 1 [1, 2, 3] [(3, .p 0 0), (12, .v (.agg #[vi m2.code, .slice a4 m2.ids.length c5]))] ?_ rfl ?_))))
    · as_aux_lemma => kernel_rfl
    refine OPC (CALL 11 #[.agg #[vi m2.code, .slice a4 m2.ids.length c5]] (some 13) ?_ [] [] _ rfl (RV (.string (bs (replyLine m2)))) (fun w hw => iReplyLine_c w m2 a4 c5 (Rd.own (hw.own 0 rfl)) (by first | assumption | exact hr) (by first | assumption | omega) (htab.fr hw.fr)) (by rintro _ ⟨⟩; exact Nat.le_of_ble_eq_true rfl) ?_)
    · as_aux_lemma => kernel_rfl
    rintro ⟨⟩
    refine OPC (CALL 20 #[.string (bs (replyLine m2)), .int .u8 32] (some 14) ?_ [] [] _ rfl (⟨HH, fun p => .slice p.1 ((parts (replyLine m2) 32).length) p.2, fun p => [slA 9 strL (.slice p.1 (parts (replyLine m2) 32).length p.2) (parts (replyLine m2) 32)]⟩) (fun w hw => iParts_c w (replyLine m2) 32 (by first | assumption | omega) (hmx.fr hw.fr)) (by rintro _ ⟨⟩; exact Nat.le_of_ble_eq_true rfl) ?_)
    · as_aux_lemma => kernel_rfl
    rintro ⟨a6, c7⟩
    have hr8 := parts_len (replyLine m2) 32
    refine FACT (a6.isSome = true) (fun w hw => SlO.isS (hw.own 1 rfl) (by omega)) (fun hs9 => ?_)
    refine RUN0 1 [] [(3, .p 0 0), (4, .v (.slice a6 ((parts (replyLine m2) 32).length) c7))] ?_ rfl ?_
    · as_aux_lemma => kernel_rfl
    refine ENDOPS (NEXT (SEQ (SEQ (REGIONQ ?_ ?_ ?_))))
    · as_aux_lemma => kernel_rfl
    · as_aux_lemma => kernel_rfl
    refine QRUN 8 0 8 [(3, .p 0 0), (4, .v (.slice a6 ((parts (replyLine m2) 32).length) c7)), (22, B ((((parts (replyLine m2) 32).length : Nat) : Int) != (wr (1 + (m2.ids.length : Int)))))] ?_ rfl ?_
    · as_aux_lemma => kernel_rfl
    refine QSPLIT (d := 22) ((((parts (replyLine m2) 32).length : Nat) : Int) != (wr (1 + (m2.ids.length : Int)))) ?_ (fun bh10 => ?_) (fun bh10 => ?_)
    · as_aux_lemma => kernel_rfl
    · -- (((parts (replyLine m2) 32).length : Nat) : Int) != (wr (1 + (m2.ids.length : Int))) = true
      have h10 := bh10
      have h10 := bne_iff_ne.1 h10
      refine QRUN 8 8 16 [(3, .p 0 0), (4, .v (.slice a6 ((parts (replyLine m2) 32).length) c7)), (30, B true)] ?_ rfl ?_
      · as_aux_lemma => kernel_rfl
      refine QEND rfl (NEXT (IFT ?_ ?_))
      · as_aux_lemma => kernel_rfl
      refine SEQ (REGION [0] rfl (RUN0 1 [] [(2, B false)] ?_ rfl ?_))
      · as_aux_lemma => kernel_rfl
      refine ENDOPS (NEXT (RET (PASS trivial (FIN (.bool false) ?_ () ?_ [] ?_))))
      · as_aux_lemma => kernel_rfl
      · (first | rfl | (exfalso; simp_all; done) | (exfalso; rw [hw1] at *; omega) | (exfalso; have h9 := reply_head hid (by assumption); simp_all; done) | (exfalso; have h9 := reply_tail hid (by assumption) (by assumption); simp_all; done) | (exfalso; have h9 := reply_tail hid (by assumption) (by assumption); simp_all; omega))
      · rfl
    · -- (((parts (replyLine m2) 32).length : Nat) : Int) != (wr (1 + (m2.ids.length : Int))) = false
      have h10 := bh10
      have h10 := bneF h10
      refine QRUN 1 8 9 [(3, .p 0 0), (4, .v (.slice a6 ((parts (replyLine m2) 32).length) c7)), (22, B false), (23, .v (.slice a6 ((parts (replyLine m2) 32).length) c7))] ?_ rfl ?_
      · as_aux_lemma => kernel_rfl
      obtain ⟨x11, hx12⟩ : ∃ y, (parts (replyLine m2) 32)[0]? = some y := ⟨_, List.getElem?_eq_getElem (by omega)⟩
      refine QINDEX 41 (.tmp 23) (.const (vi 0)) 24 0 ?_ (Nat.le_of_ble_eq_true rfl) a6 ((parts (replyLine m2) 32).length) c7 .i64 0 9 1 ?_ ?_ ?_ ?_ hs9 (by omega) (by omega) ?_
      · as_aux_lemma => kernel_rfl
      · as_aux_lemma => kernel_rfl
      · as_aux_lemma => kernel_rfl
      · as_aux_lemma => kernel_rfl
      · as_aux_lemma => kernel_rfl
      refine QLOADE 9 (.tmp 24) 25 9 ?_ (Nat.le_of_ble_eq_true rfl) a6 (0 * 1) 0 [.string (bs x11)] (.string (bs x11)) ?_ (fun w hw => (Rd.own (hw.own 1 rfl)).flat hx12) ?_ ?_
      · as_aux_lemma => kernel_rfl
      · as_aux_lemma => kernel_rfl
      · as_aux_lemma => kernel_rfl
      refine QRUN 2 11 13 [(3, .p 0 0), (4, .v (.slice a6 ((parts (replyLine m2) 32).length) c7)), (22, B false), (25, .v (.string (bs x11))), (27, I m2.code)] ?_ rfl ?_
      · as_aux_lemma => kernel_rfl
      have hr13 := codeWord_len m2.code
      refine QCALL 21 #[vi m2.code] (some 28) ?_ (.string (bs (codeWord m2.code))) (fun w hw => sCodeWord_c w m2.code) (by rintro _ ⟨⟩; exact Nat.le_of_ble_eq_true rfl) ?_
      · as_aux_lemma => kernel_rfl
      refine QRUNV (.binOp .neq 9 (.tmp 25) (.tmp 28) 9) 29 4 ?_ (Nat.le_of_ble_eq_true rfl) (.bool (!(x11 == (codeWord m2.code)))) (runs_sneq (a := x11) (b := codeWord m2.code) ?_ ?_) ?_
      · as_aux_lemma => kernel_rfl
      · as_aux_lemma => kernel_rfl
      · as_aux_lemma => kernel_rfl
      refine QRUN 1 15 16 [(3, .p 0 0), (4, .v (.slice a6 ((parts (replyLine m2) 32).length) c7)), (30, B (!(x11 == (codeWord m2.code))))] ?_ rfl ?_
      · as_aux_lemma => kernel_rfl
      refine QEND rfl (NEXT (IF (!(x11 == (codeWord m2.code))) ?_ (fun bh14 => ?_) (fun bh14 => ?_)))
      · as_aux_lemma => kernel_rfl
      · -- !(x11 == (codeWord m2.code)) = true
        have h14 := bh14
        have h14 := notT h14
        have h14 := ne_of_beq_false h14
        refine SEQ (REGION [0] rfl (RUN0 1 [] [(2, B false)] ?_ rfl ?_))
        · as_aux_lemma => kernel_rfl
        refine ENDOPS (NEXT (RET (PASS trivial (FIN (.bool false) ?_ () ?_ [] ?_))))
        · as_aux_lemma => kernel_rfl
        · (first | rfl | (exfalso; simp_all; done) | (exfalso; rw [hw1] at *; omega) | (exfalso; have h9 := reply_head hid (by assumption); simp_all; done) | (exfalso; have h9 := reply_tail hid (by assumption) (by assumption); simp_all; done) | (exfalso; have h9 := reply_tail hid (by assumption) (by assumption); simp_all; omega))
        · rfl
      · -- !(x11 == (codeWord m2.code)) = false
        have h14 := bh14
        have h14 := notF h14
        have h14 := eq_of_beq h14
        refine SKIP (NEXT (SEQ (SEQ (REGION [0] rfl (RUN0 1 [] [(3, .p 0 0), (4, .v (.slice a6 ((parts (replyLine m2) 32).length) c7)), (5, I 0)] ?_ rfl ?_)))))
        · as_aux_lemma => kernel_rfl
        refine ENDOPS (NEXT (BLOCK (LOOP (ι := Nat × (List Int)) (fun j => [(3, .p 0 0), (4, .v (.slice a6 ((parts (replyLine m2) 32).length) c7)), (5, I (j.1 : Int))]) (fun j => [(27, [vi m2.code, .slice a4 m2.ids.length c5])]) (fun j => [slA 3 intL (.slice a4 m2.ids.length c5) m2.ids, slA 9 strL (.slice a6 (parts (replyLine m2) 32).length c7) (parts (replyLine m2) 32)]) (fun j => j.1 + j.2.length = m2.ids.length ∧ m2.ids.drop j.1 = j.2) (fun j => j.2.length) (0, m2.ids) [3, 4, 5] ⟨by simp, rfl⟩ ?_ rfl rfl ?_)))
        · as_aux_lemma => kernel_rfl
        rintro ⟨k, ys⟩ ⟨hk, hd⟩
        dsimp only at hk hd
        refine SEQ (SEQ (REGION [0, 1, 2, 3, 4] rfl (RUN0 5 [] [(3, .p 0 0), (4, .v (.slice a6 ((parts (replyLine m2) 32).length) c7)), (5, I (k : Int)), (35, B (decide ((k : Int) < (m2.ids.length : Int))))] ?_ rfl ?_)))
        · as_aux_lemma => kernel_rfl
        refine ENDOPS (NEXT (IF (decide ((k : Int) < (m2.ids.length : Int))) ?_ (fun bh15 => ?_) (fun bh15 => ?_)))
        · as_aux_lemma => kernel_rfl
        · -- decide ((k : Int) < (m2.ids.length : Int)) = true
          have h15 := bh15
          have h15 := of_decide_eq_true h15
          obtain ⟨y16, ys17, rfl, hx_y16, hd_y16, hl_y16⟩ := drop_cons hd hk (by omega)
          
          refine SKIP (NEXT (SEQ (BLOCK (SEQ (REGION [0, 1, 2, 3, 4, 5, 6, 7, 8, 9, 10] rfl (RUN0 3 [3, 4, 5, 6, 7, 8, 9, 10] [(3, .p 0 0), (4, .v (.slice a6 ((parts (replyLine m2) 32).length) c7)), (5, I (k : Int)), (39, .v (.slice a6 ((parts (replyLine m2) 32).length) c7)), (41, I (wr ((k : Int) + 1)))] ?_ rfl ?_))))))
          · as_aux_lemma => kernel_rfl
          refine CAST (d := 41) (vi (wr ((k : Int) + 1))) (vi ((k + 1 : Nat) : Int)) ?_ (vi_cast (by omega) (by omega)) ?_
          · as_aux_lemma => kernel_rfl
          obtain ⟨x18, hx19⟩ : ∃ y, (parts (replyLine m2) 32)[k + 1]? = some y := ⟨_, List.getElem?_eq_getElem (by omega)⟩
          refine OPC (INDEX 41 (.tmp 39) (.tmp 41) 42 0 ?_ (Nat.le_of_ble_eq_true rfl) a6 ((parts (replyLine m2) 32).length) c7 .i64 ((k + 1 : Nat) : Int) 9 1 ?_ ?_ ?_ ?_ hs9 (by omega) (by omega) ?_)
          · as_aux_lemma => kernel_rfl
          · as_aux_lemma => kernel_rfl
          · as_aux_lemma => kernel_rfl
          · as_aux_lemma => kernel_rfl
          · as_aux_lemma => kernel_rfl
          refine OPC (LOADE 9 (.tmp 42) 43 9 ?_ (Nat.le_of_ble_eq_true rfl) a6 ((k + 1) * 1) 0 [.string (bs x18)] (.string (bs x18)) ?_ (fun w hw => (Rd.own (hw.own 1 rfl)).flat hx19) ?_ ?_)
          · as_aux_lemma => kernel_rfl
          · as_aux_lemma => kernel_rfl
          · as_aux_lemma => kernel_rfl
          refine OPC (CALL 22 #[.string (bs x18)] (some 44) ?_ [] [] _ rfl (RV (.tuple #[vi (((number x18).getD 0 : Nat) : Int), .bool ((number x18).isSome)])) (fun w hw => iNumber_c w x18 (htab.fr hw.fr)) (by rintro _ ⟨⟩; exact Nat.le_of_ble_eq_true rfl) ?_)
          · as_aux_lemma => kernel_rfl
          rintro ⟨⟩
          refine RUN0 5 [] [(3, .p 0 0), (4, .v (.slice a6 ((parts (replyLine m2) 32).length) c7)), (5, I (k : Int)), (6, I (((number x18).getD 0 : Nat) : Int)), (7, B ((number x18).isSome))] ?_ rfl ?_
          · as_aux_lemma => kernel_rfl
          refine ENDOPS (NEXT (SEQ (REGION [0, 1, 2, 3, 4, 5, 6, 7, 8, 9, 10] rfl (RUN0 3 [3, 4, 5, 6, 7, 8, 9, 10] [(3, .p 0 0), (4, .v (.slice a6 ((parts (replyLine m2) 32).length) c7)), (5, I (k : Int)), (6, I (((number x18).getD 0 : Nat) : Int)), (49, B (!((number x18).isSome)))] ?_ rfl ?_))))
          · as_aux_lemma => kernel_rfl
          refine SPLIT (d := 49) (!((number x18).isSome)) ?_ (fun bh20 => ?_) (fun bh20 => ?_)
          · as_aux_lemma => kernel_rfl
          · -- !((number x18).isSome) = true
            have h20 := bh20
            have h20 := notT h20
            refine RUN0 8 [] [(3, .p 0 0), (4, .v (.slice a6 ((parts (replyLine m2) 32).length) c7)), (5, I (k : Int)), (57, B true)] ?_ rfl ?_
            · as_aux_lemma => kernel_rfl
            refine ENDOPS (NEXT (IFT ?_ ?_))
            · as_aux_lemma => kernel_rfl
            refine SEQ (REGION [0] rfl (RUN0 1 [] [(2, B false)] ?_ rfl ?_))
            · as_aux_lemma => kernel_rfl
            refine ENDOPS (NEXT (RET (OUTR (PASS trivial (PASS trivial (OUTR (PASS trivial (FIN (.bool false) ?_ () ?_ [] ?_))))))))
            · as_aux_lemma => kernel_rfl
            · (first | rfl | (exfalso; simp_all; done) | (exfalso; rw [hw1] at *; omega) | (exfalso; have h9 := reply_head hid (by assumption); simp_all; done) | (exfalso; have h9 := reply_tail hid (by assumption) (by assumption); simp_all; done) | (exfalso; have h9 := reply_tail hid (by assumption) (by assumption); simp_all; omega))
            · rfl
          · -- !((number x18).isSome) = false
            have h20 := bh20
            have h20 := notF h20
            refine RUN0 4 [7, 8, 9, 10] [(3, .p 0 0), (4, .v (.slice a6 ((parts (replyLine m2) 32).length) c7)), (5, I (k : Int)), (49, B false), (50, I (((number x18).getD 0 : Nat) : Int)), (52, .v (.slice a4 m2.ids.length c5)), (53, I (k : Int))] ?_ rfl ?_
            · as_aux_lemma => kernel_rfl
            refine FACT (a4.isSome = true) (fun w hw => SlO.isS (hw.own 0 rfl) (by omega)) (fun hs21 => ?_)
            refine OPC (INDEX 22 (.tmp 52) (.tmp 53) 54 0 ?_ (Nat.le_of_ble_eq_true rfl) a4 m2.ids.length c5 .i64 (k : Int) 3 1 ?_ ?_ ?_ ?_ hs21 (by omega) (by omega) ?_)
            · as_aux_lemma => kernel_rfl
            · as_aux_lemma => kernel_rfl
            · as_aux_lemma => kernel_rfl
            · as_aux_lemma => kernel_rfl
            · as_aux_lemma => kernel_rfl
            refine OPC (LOADE 3 (.tmp 54) 55 3 ?_ (Nat.le_of_ble_eq_true rfl) a4 (k * 1) 0 [vi y16] (vi y16) ?_ (fun w hw => (Rd.own (hw.own 0 rfl)).flat hx_y16) ?_ ?_)
            · as_aux_lemma => kernel_rfl
            · as_aux_lemma => kernel_rfl
            · as_aux_lemma => kernel_rfl
            refine RUN0 2 [] [(3, .p 0 0), (4, .v (.slice a6 ((parts (replyLine m2) 32).length) c7)), (5, I (k : Int)), (57, B ((((number x18).getD 0 : Nat) : Int) != y16))] ?_ rfl ?_
            · as_aux_lemma => kernel_rfl
            refine ENDOPS (NEXT (IF ((((number x18).getD 0 : Nat) : Int) != y16) ?_ (fun bh22 => ?_) (fun bh22 => ?_)))
            · as_aux_lemma => kernel_rfl
            · -- (((number x18).getD 0 : Nat) : Int) != y16 = true
              have h22 := bh22
              have h22 := bne_iff_ne.1 h22
              refine SEQ (REGION [0] rfl (RUN0 1 [] [(2, B false)] ?_ rfl ?_))
              · as_aux_lemma => kernel_rfl
              refine ENDOPS (NEXT (RET (OUTR (PASS trivial (PASS trivial (OUTR (PASS trivial (FIN (.bool false) ?_ () ?_ [] ?_))))))))
              · as_aux_lemma => kernel_rfl
              · (first | rfl | (exfalso; simp_all; done) | (exfalso; rw [hw1] at *; omega) | (exfalso; have h9 := reply_head hid (by assumption); simp_all; done) | (exfalso; have h9 := reply_tail hid (by assumption) (by assumption); simp_all; done) | (exfalso; have h9 := reply_tail hid (by assumption) (by assumption); simp_all; omega))
              · rfl
            · -- (((number x18).getD 0 : Nat) : Int) != y16 = false
              have h22 := bh22
              have h22 := bneF h22
              refine SKIP (OUTN (NEXT (REGION [0, 1, 2] rfl (RUN0 2 [2] [(3, .p 0 0), (4, .v (.slice a6 ((parts (replyLine m2) 32).length) c7)), (37, I (wr ((k : Int) + 1)))] ?_ rfl ?_))))
              · as_aux_lemma => kernel_rfl
              refine CAST (d := 37) (vi (wr ((k : Int) + 1))) (vi ((k + 1 : Nat) : Int)) ?_ (vi_cast (by omega) (by omega)) ?_
              · as_aux_lemma => kernel_rfl
              refine RUN0 1 [] [(3, .p 0 0), (4, .v (.slice a6 ((parts (replyLine m2) 32).length) c7)), (5, I ((k + 1 : Nat) : Int))] ?_ rfl ?_
              · as_aux_lemma => kernel_rfl
              refine ENDOPS (BACK (k + 1, ys17) [3, 4, 5] 1 [0, 0] _ ⟨hl_y16, hd_y16⟩ (by simp) ?_ rfl rfl rfl)
              · as_aux_lemma => kernel_rfl
        · -- decide ((k : Int) < (m2.ids.length : Int)) = false
          have h15 := bh15
          have h15 := of_decide_eq_false h15
          obtain rfl := drop_nil hk (by omega)
          refine EXIT (PASS trivial (PASS trivial (OUT (NEXT (SEQ (REGION [0] rfl (RUN0 1 [] [(2, B true)] ?_ rfl ?_)))))))
          · as_aux_lemma => kernel_rfl
          refine ENDOPS (NEXT (RET (FIN (.bool true) ?_ () ?_ [] ?_)))
          · as_aux_lemma => kernel_rfl
          · (first | rfl | (exfalso; simp_all; done) | (exfalso; rw [hw1] at *; omega) | (exfalso; have h9 := reply_head hid (by assumption); simp_all; done) | (exfalso; have h9 := reply_tail hid (by assumption) (by assumption); simp_all; done) | (exfalso; have h9 := reply_tail hid (by assumption) (by assumption); simp_all; omega))
          · rfl

end SX
end Go.Proofs.YtpdijcbgdalphaaDoor
