/- Walks, printed by program. -/
import Derived.Test.YtpdijcbgdalphabGreatDoorV4
namespace Go.Proofs.YtpdijcbgdalphabGreatDoor
namespace SX
open Go Go.RowKit
set_option linter.unusedVariables false
set_option linter.unusedSimpArgs false
set_option maxRecDepth 10000
set_option maxHeartbeats 400000
theorem fnScript_c (W : World) (code : List UInt8) (code_a : Option Addr) (code_c : Nat) (hcode : Rd byteL W code_a code) (htab : Tab Tryz.prog W) (hmx : MaxL Tryz.prog W) : Spec Tryz.prog W [] 3 #[.slice code_a code.length code_c] (RV (.bool true)) := by
 refine ENTER0 (N := 66) (vs := [.slice code_a code.length code_c]) Tryz.func3 rfl rfl (NL rfl) ?_
 have hcode_len := hcode.len
 refine SEQ (REGION [0] rfl (RUN0 1 [] [(0, .v (.slice code_a code.length code_c))] ?_ rfl ?_))
 · as_aux_lemma => kernel_rfl
 refine ENDOPS (NEXT (SEQ (SEQ (REGION [0, 1] rfl (RUN0 1 [1] [(0, .v (.slice code_a code.length code_c)), (10, .v (.slice code_a code.length code_c))] ?_ rfl ?_)))))
 · as_aux_lemma => kernel_rfl
 refine OPC (CALL 5 #[.slice code_a code.length code_c] (some 11) ?_ [] [] _ rfl (RV (.bool (decide ((code.length : Int) > 1048576)))) (fun w hw => big_c w code code_a code_c (hcode.fr hw.fr)) (NO rfl) ?_)
 · as_aux_lemma => kernel_rfl
 rintro ⟨⟩
 refine ENDOPS (NEXT (IF (decide ((code.length : Int) > 1048576)) ?_ (fun bh1 => ?_) (fun bh1 => ?_)))
 · as_aux_lemma => kernel_rfl
 ·
  have h1 := bh1
  have h1 := of_decide_eq_true h1
  refine SEQ (REGION [0] rfl (RUN0 1 [] [(2, B true)] ?_ rfl ?_))
  · as_aux_lemma => kernel_rfl
  refine ENDOPS (NEXT (RET (PASS trivial (FIN (.bool true) ?_ () ?_ [] ?_))))
  · as_aux_lemma => kernel_rfl
  · (first | rfl | (exfalso; simp_all [optReq]; done) | (exfalso; simp_all [read_script hne]; done) | (simp [RV, read_script hne, sameReqs_refl]; done) | (simp_all [RV, readScript, read_script, sameReqs_refl]; done))
  · rfl
 ·
  have h1 := bh1
  have h1 := of_decide_eq_false h1
  refine SKIP (NEXT (SEQ (REGION [0, 1, 2] rfl (RUN0 1 [1, 2] [(12, .v (.slice code_a code.length code_c))] ?_ rfl ?_))))
  · as_aux_lemma => kernel_rfl
  refine OPC (CALL 6 #[.slice code_a code.length code_c] (some 13) ?_ [] [] _ rfl (⟨{q : (HH) × (List Req) // (fun x : List Req => x.length ≤ 201) q.2}, fun q => .slice q.1.1.1 q.1.2.length q.1.1.2, fun q => [slA 30 reqL (.slice q.1.1.1 q.1.2.length q.1.1.2) q.1.2]⟩) (fun w hw => drawScriptText_c w code code_a code_c (hcode.fr hw.fr)) (NO rfl) ?_)
  · as_aux_lemma => kernel_rfl
  rintro ⟨⟨⟨a4, c5⟩, m2⟩, hm3⟩
  try dsimp only at hm3
  refine RUN0 1 [] [(3, .v (.slice a4 m2.length c5))] ?_ rfl ?_
  · as_aux_lemma => kernel_rfl
  refine ENDOPS (NEXT (SEQ (REGION [0, 1, 2] rfl (RUN0 1 [1, 2] [(3, .v (.slice a4 m2.length c5)), (14, .v (.slice a4 m2.length c5))] ?_ rfl ?_))))
  · as_aux_lemma => kernel_rfl
  refine OPC (CALL 7 #[.slice a4 m2.length c5] (some 15) ?_ [] [] _ rfl (RV (.string (bs (scriptText m2)))) (fun w hw => iScriptText_c w m2 a4 c5 (hw.rdO 0 rfl) (htab.fr hw.fr)) (NO rfl) ?_)
  · as_aux_lemma => kernel_rfl
  rintro ⟨⟩
  have hr6 := script_len m2
  refine RUN0 1 [] [(3, .v (.slice a4 m2.length c5)), (4, .v (.string (bs (scriptText m2))))] ?_ rfl ?_
  · as_aux_lemma => kernel_rfl
  refine ENDOPS (NEXT (SEQ (SEQ (REGION [0, 1, 2, 3] rfl (RUN0 2 [2, 3] [(3, .v (.slice a4 m2.length c5)), (4, .v (.string (bs (scriptText m2)))), (16, .v (.string (bs (scriptText m2)))), (17, .v (.slice a4 m2.length c5))] ?_ rfl ?_)))))
  · as_aux_lemma => kernel_rfl
  refine OPC (CALL 8 #[.slice a4 m2.length c5] (some 18) ?_ [] [] _ rfl (RV (.string (bs (scriptText m2)))) (fun w hw => sScriptText_c w m2 a4 c5 (hw.rdO 0 rfl)) (NO rfl) ?_)
  · as_aux_lemma => kernel_rfl
  rintro ⟨⟩
  refine OPC (RUNV (.binOp .neq 9 (.tmp 16) (.tmp 18) 9) 19 4 ?_ (NL rfl) (.bool (!((scriptText m2) == (scriptText m2)))) (runs_sneq (a := scriptText m2) (b := scriptText m2) ?_ ?_) ?_)
  iterate 3 (as_aux_lemma => kernel_rfl)
  refine ENDOPS (NEXT (IF (!((scriptText m2) == (scriptText m2))) ?_ (fun bh7 => ?_) (fun bh7 => ?_)))
  · as_aux_lemma => kernel_rfl
  ·
   have h7 := bh7
   have h7 := notT h7
   have h7 := ne_of_beq_false h7
   refine SEQ (REGION [0] rfl (RUN0 1 [] [(2, B false)] ?_ rfl ?_))
   · as_aux_lemma => kernel_rfl
   refine ENDOPS (NEXT (RET (PASS trivial (FIN (.bool false) ?_ () ?_ [] ?_))))
   · as_aux_lemma => kernel_rfl
   · (first | rfl | (exfalso; simp_all [optReq]; done) | (exfalso; simp_all [read_script hne]; done) | (simp [RV, read_script hne, sameReqs_refl]; done) | (simp_all [RV, readScript, read_script, sameReqs_refl]; done))
   · rfl
  ·
   have h7 := bh7
   have h7 := notF h7
   have h7 := eq_of_beq h7
   refine SKIP (NEXT (SEQ (REGION [0, 1, 2, 3, 4, 5, 6] rfl (RUN0 1 [1, 2, 3, 4, 5, 6] [(3, .v (.slice a4 m2.length c5)), (4, .v (.string (bs (scriptText m2)))), (21, .v (.string (bs (scriptText m2))))] ?_ rfl ?_))))
   · as_aux_lemma => kernel_rfl
   refine OPC (CALL 9 #[.string (bs (scriptText m2))] (some 22) ?_ [] [] _ rfl (⟨HH, fun p => .tuple #[.slice p.1 (((readScript (scriptText m2)).1).length) p.2, vi ((readScript (scriptText m2)).2)], fun p => [slA 30 reqL (.slice p.1 ((readScript (scriptText m2)).1).length p.2) ((readScript (scriptText m2)).1)]⟩) (fun w hw => iReadScript_c w (scriptText m2) (by first | assumption | omega) (htab.fr hw.fr) (hmx.fr hw.fr)) (NO rfl) ?_)
   · as_aux_lemma => kernel_rfl
   rintro ⟨a8, c9⟩
   refine RUN0 5 [] [(3, .v (.slice a4 m2.length c5)), (4, .v (.string (bs (scriptText m2)))), (5, .v (.slice a8 (((readScript (scriptText m2)).1).length) c9)), (6, I ((readScript (scriptText m2)).2))] ?_ rfl ?_
   · as_aux_lemma => kernel_rfl
   refine ENDOPS (NEXT (SEQ (SEQ (REGION [0, 1] rfl (RUN0 1 [1] [(3, .v (.slice a4 m2.length c5)), (5, .v (.slice a8 (((readScript (scriptText m2)).1).length) c9)), (6, I ((readScript (scriptText m2)).2)), (25, .v (.string (bs (scriptText m2))))] ?_ rfl ?_)))))
   · as_aux_lemma => kernel_rfl
   refine OPC (RUNV (.binOp .eql 9 (.tmp 25) (.const (.string (bs ([])))) 9) 26 4 ?_ (NL rfl) (.bool ((scriptText m2) == ([]))) (runs_seql (a := scriptText m2) (b := []) ?_ ?_) ?_)
   iterate 3 (as_aux_lemma => kernel_rfl)
   refine ENDOPS (NEXT (IF ((scriptText m2) == ([])) ?_ (fun bh10 => ?_) (fun bh10 => ?_)))
   · as_aux_lemma => kernel_rfl
   ·
    have h10 := bh10
    have h10 := eq_of_beq h10
    refine SEQ (REGION [0, 1, 2, 3, 4, 5, 6, 7] rfl (RUN0 4 [4, 5, 6, 7] [(6, I ((readScript (scriptText m2)).2)), (30, B (((((readScript (scriptText m2)).1).length : Nat) : Int) == 0))] ?_ rfl ?_))
    · as_aux_lemma => kernel_rfl
    refine SPLIT (d := 30) (((((readScript (scriptText m2)).1).length : Nat) : Int) == 0) ?_ (fun bh11 => ?_) (fun bh11 => ?_)
    · as_aux_lemma => kernel_rfl
    ·
     have h11 := bh11
     have h11 := eq_of_beq h11
     refine RUN0 4 [] [(2, B (((readScript (scriptText m2)).2) == (-1)))] ?_ rfl ?_
     · as_aux_lemma => kernel_rfl
     refine ENDOPS (NEXT (RET (PASS trivial (FIN (.bool (((readScript (scriptText m2)).2) == (-1))) ?_ () ?_ [] ?_))))
     · as_aux_lemma => kernel_rfl
     · (first | rfl | (exfalso; simp_all [optReq]; done) | (exfalso; simp_all [read_script hne]; done) | (simp [RV, read_script hne, sameReqs_refl]; done) | (simp_all [RV, readScript, read_script, sameReqs_refl]; done))
     · rfl
    ·
     have h11 := bh11
     have h11 := ne_of_beq_false h11
     refine RUN0 4 [] [(2, B false)] ?_ rfl ?_
     · as_aux_lemma => kernel_rfl
     refine ENDOPS (NEXT (RET (PASS trivial (FIN (.bool false) ?_ () ?_ [] ?_))))
     · as_aux_lemma => kernel_rfl
     · (first | rfl | (exfalso; simp_all [optReq]; done) | (exfalso; simp_all [read_script hne]; done) | (simp [RV, read_script hne, sameReqs_refl]; done) | (simp_all [RV, readScript, read_script, sameReqs_refl]; done))
     · rfl
   ·
    have h10 := bh10
    have h10 := ne_of_beq_false h10
    have hne := h10
    refine SKIP (NEXT (SEQ (SEQ (REGION [0] rfl (RUN0 1 [] [(3, .v (.slice a4 m2.length c5)), (5, .v (.slice a8 (((readScript (scriptText m2)).1).length) c9)), (6, I ((readScript (scriptText m2)).2)), (7, I 0)] ?_ rfl ?_)))))
    · as_aux_lemma => kernel_rfl
    refine ENDOPS (NEXT (BLOCK (LOOP (ι := Nat × (List Req)) (fun j => [(3, .v (.slice a4 m2.length c5)), (5, .v (.slice a8 (((readScript (scriptText m2)).1).length) c9)), (6, I ((readScript (scriptText m2)).2)), (7, I (j.1 : Int))]) (fun j => []) (fun j => [slA 30 reqL (.slice a4 m2.length c5) m2, slA 30 reqL (.slice a8 ((readScript (scriptText m2)).1).length c9) ((readScript (scriptText m2)).1)]) (fun j => j.1 + j.2.length = m2.length ∧ m2.drop j.1 = j.2) (fun j => j.2.length) (0, m2) [3, 5, 6, 7] ⟨by simp, rfl⟩ ?_ rfl rfl ?_)))
    · as_aux_lemma => kernel_rfl
    rintro ⟨k, ys⟩ ⟨hk, hd⟩
    try dsimp only at hk hd
    refine SEQ (SEQ (REGION [0, 1, 2, 3] rfl (RUN0 4 [] [(3, .v (.slice a4 m2.length c5)), (5, .v (.slice a8 (((readScript (scriptText m2)).1).length) c9)), (6, I ((readScript (scriptText m2)).2)), (7, I (k : Int)), (37, B (decide ((k : Int) < (m2.length : Int))))] ?_ rfl ?_)))
    · as_aux_lemma => kernel_rfl
    refine ENDOPS (NEXT (IF (decide ((k : Int) < (m2.length : Int))) ?_ (fun bh12 => ?_) (fun bh12 => ?_)))
    · as_aux_lemma => kernel_rfl
    ·
     have h12 := bh12
     have h12 := of_decide_eq_true h12
     obtain ⟨y13, ys14, rfl, hx_y13, hd_y13, hl_y13⟩ := drop_cons hd hk (by omega)
     have hrd := read_one hne hx_y13
     refine SKIP (NEXT (SEQ (BLOCK (SEQ (REGION [0, 1, 2, 3, 4, 5, 6, 7, 8, 9, 10, 11] rfl (RUN0 2 [2, 3, 4, 5, 6, 7, 8, 9, 10, 11] [(3, .v (.slice a4 m2.length c5)), (5, .v (.slice a8 (((readScript (scriptText m2)).1).length) c9)), (6, I ((readScript (scriptText m2)).2)), (7, I (k : Int)), (41, .v (.slice a4 m2.length c5)), (42, I (k : Int))] ?_ rfl ?_))))))
     · as_aux_lemma => kernel_rfl
     refine FACT (a4.isSome = true) (fun w hw => SlO.isS (hw.own 0 rfl) (by omega)) (fun hs15 => ?_)
     refine OPC (INDEX 24 (.tmp 41) (.tmp 42) 43 0 ?_ (NL rfl) a4 m2.length c5 .i64 (k : Int) 30 6 ?_ ?_ ?_ ?_ hs15 (by omega) (by omega) ?_)
     iterate 5 (as_aux_lemma => kernel_rfl)
     refine OPC (LOADE 30 (.tmp 43) 44 30 ?_ (NL rfl) a4 (k * 6) 0 [vi y13.kind, vi y13.id, vi y13.cabin, vi y13.from', vi y13.size, vi y13.tier] (.agg #[vi y13.kind, vi y13.id, vi y13.cabin, vi y13.from', vi y13.size, vi y13.tier]) ?_ (fun w hw => (hw.rdO 0 rfl).flat hx_y13) ?_ ?_)
     iterate 3 (as_aux_lemma => kernel_rfl)
     refine OPC (CALL 11 #[.agg #[vi y13.kind, vi y13.id, vi y13.cabin, vi y13.from', vi y13.size, vi y13.tier]] (some 45) ?_ [] [] _ rfl (RV (.string (bs (reqLine y13)))) (fun w hw => iReqLine_c w y13 (htab.fr hw.fr)) (NO rfl) ?_)
     · as_aux_lemma => kernel_rfl
     rintro ⟨⟩
     have hr16 := reqLine_len y13
     refine OPC (CALL 10 #[.string (bs (reqLine y13))] (some 46) ?_ [] [] _ rfl (RV (.tuple #[.agg #[vi ((optReq (readI (reqLine y13))).kind), vi ((optReq (readI (reqLine y13))).id), vi ((optReq (readI (reqLine y13))).cabin), vi ((optReq (readI (reqLine y13))).from'), vi ((optReq (readI (reqLine y13))).size), vi ((optReq (readI (reqLine y13))).tier)], .bool ((readI (reqLine y13)).isSome)])) (fun w hw => iReadReq_c w (reqLine y13) (by first | assumption | omega) (htab.fr hw.fr) (hmx.fr hw.fr)) (NO rfl) ?_)
     · as_aux_lemma => kernel_rfl
     rintro ⟨⟩
     refine RUN 6 [] [(3, .v (.slice a4 m2.length c5)), (5, .v (.slice a8 (((readScript (scriptText m2)).1).length) c9)), (6, I ((readScript (scriptText m2)).2)), (7, I (k : Int)), (8, .p 0 0), (9, B ((readI (reqLine y13)).isSome))] [(30, [vi ((optReq (readI (reqLine y13))).kind), vi ((optReq (readI (reqLine y13))).id), vi ((optReq (readI (reqLine y13))).cabin), vi ((optReq (readI (reqLine y13))).from'), vi ((optReq (readI (reqLine y13))).size), vi ((optReq (readI (reqLine y13))).tier)])] ?_ rfl ?_
     · as_aux_lemma => kernel_rfl
     refine ENDOPS (NEXT (SEQ (REGIONQ ?_ ?_ ?_)))
     iterate 2 (as_aux_lemma => kernel_rfl)
     refine QRUN 3 0 3 [(3, .v (.slice a4 m2.length c5)), (5, .v (.slice a8 (((readScript (scriptText m2)).1).length) c9)), (6, I ((readScript (scriptText m2)).2)), (7, I (k : Int)), (8, .p 0 0), (51, B (!((readI (reqLine y13)).isSome)))] ?_ rfl ?_
     · as_aux_lemma => kernel_rfl
     refine QSPLIT (d := 51) (!((readI (reqLine y13)).isSome)) ?_ (fun bh17 => ?_) (fun bh17 => ?_)
     · as_aux_lemma => kernel_rfl
     ·
      have h17 := bh17
      have h17 := notT h17
      refine QRUN 7 3 10 [(3, .v (.slice a4 m2.length c5)), (5, .v (.slice a8 (((readScript (scriptText m2)).1).length) c9)), (6, I ((readScript (scriptText m2)).2)), (7, I (k : Int)), (58, B true)] ?_ rfl ?_
      · as_aux_lemma => kernel_rfl
      refine QEND rfl (NEXT (IFT ?_ ?_))
      · as_aux_lemma => kernel_rfl
      refine SEQ (REGION [0] rfl (RUN0 1 [] [(2, B false)] ?_ rfl ?_))
      · as_aux_lemma => kernel_rfl
      refine ENDOPS (NEXT (RET (OUTR (PASS trivial (PASS trivial (OUTR (PASS trivial (FIN (.bool false) ?_ () ?_ [] ?_))))))))
      · as_aux_lemma => kernel_rfl
      · (first | rfl | (exfalso; simp_all [optReq]; done) | (exfalso; simp_all [read_script hne]; done) | (simp [RV, read_script hne, sameReqs_refl]; done) | (simp_all [RV, readScript, read_script, sameReqs_refl]; done))
      · rfl
     ·
      have h17 := bh17
      have h17 := notF h17
      refine QRUN 3 3 6 [(3, .v (.slice a4 m2.length c5)), (5, .v (.slice a8 (((readScript (scriptText m2)).1).length) c9)), (6, I ((readScript (scriptText m2)).2)), (7, I (k : Int)), (51, B false), (52, .v (.agg #[vi ((optReq (readI (reqLine y13))).kind), vi ((optReq (readI (reqLine y13))).id), vi ((optReq (readI (reqLine y13))).cabin), vi ((optReq (readI (reqLine y13))).from'), vi ((optReq (readI (reqLine y13))).size), vi ((optReq (readI (reqLine y13))).tier)])), (53, .v (.slice a4 m2.length c5)), (54, I (k : Int))] ?_ rfl ?_
      · as_aux_lemma => kernel_rfl
      refine QINDEX 24 (.tmp 53) (.tmp 54) 55 0 ?_ (NL rfl) a4 m2.length c5 .i64 (k : Int) 30 6 ?_ ?_ ?_ ?_ hs15 (by omega) (by omega) ?_
      iterate 5 (as_aux_lemma => kernel_rfl)
      refine QLOADE 30 (.tmp 55) 56 30 ?_ (NL rfl) a4 (k * 6) 0 [vi y13.kind, vi y13.id, vi y13.cabin, vi y13.from', vi y13.size, vi y13.tier] (.agg #[vi y13.kind, vi y13.id, vi y13.cabin, vi y13.from', vi y13.size, vi y13.tier]) ?_ (fun w hw => (hw.rdO 0 rfl).flat hx_y13) ?_ ?_
      iterate 3 (as_aux_lemma => kernel_rfl)
      refine QRUNV (.binOp .neq 30 (.tmp 52) (.tmp 56) 30) 57 4 ?_ (NL rfl) (.bool (!((((optReq (readI (reqLine y13))).kind) == y13.kind) && ((((optReq (readI (reqLine y13))).id) == y13.id) && ((((optReq (readI (reqLine y13))).cabin) == y13.cabin) && ((((optReq (readI (reqLine y13))).from') == y13.from') && ((((optReq (readI (reqLine y13))).size) == y13.size) && ((((optReq (readI (reqLine y13))).tier) == y13.tier) && true)))))))) (runs_neq (xs := [vi ((optReq (readI (reqLine y13))).kind), vi ((optReq (readI (reqLine y13))).id), vi ((optReq (readI (reqLine y13))).cabin), vi ((optReq (readI (reqLine y13))).from'), vi ((optReq (readI (reqLine y13))).size), vi ((optReq (readI (reqLine y13))).tier)]) (ys := [vi y13.kind, vi y13.id, vi y13.cabin, vi y13.from', vi y13.size, vi y13.tier]) (r := (((optReq (readI (reqLine y13))).kind) == y13.kind) && ((((optReq (readI (reqLine y13))).id) == y13.id) && ((((optReq (readI (reqLine y13))).cabin) == y13.cabin) && ((((optReq (readI (reqLine y13))).from') == y13.from') && ((((optReq (readI (reqLine y13))).size) == y13.size) && ((((optReq (readI (reqLine y13))).tier) == y13.tier) && true)))))) ?_ ?_ ?_) ?_
      iterate 4 (as_aux_lemma => kernel_rfl)
      refine QRUN 1 9 10 [(3, .v (.slice a4 m2.length c5)), (5, .v (.slice a8 (((readScript (scriptText m2)).1).length) c9)), (6, I ((readScript (scriptText m2)).2)), (7, I (k : Int)), (58, B (!((((optReq (readI (reqLine y13))).kind) == y13.kind) && ((((optReq (readI (reqLine y13))).id) == y13.id) && ((((optReq (readI (reqLine y13))).cabin) == y13.cabin) && ((((optReq (readI (reqLine y13))).from') == y13.from') && ((((optReq (readI (reqLine y13))).size) == y13.size) && ((((optReq (readI (reqLine y13))).tier) == y13.tier) && true))))))))] ?_ rfl ?_
      · as_aux_lemma => kernel_rfl
      refine QEND rfl (NEXT (IF (!((((optReq (readI (reqLine y13))).kind) == y13.kind) && ((((optReq (readI (reqLine y13))).id) == y13.id) && ((((optReq (readI (reqLine y13))).cabin) == y13.cabin) && ((((optReq (readI (reqLine y13))).from') == y13.from') && ((((optReq (readI (reqLine y13))).size) == y13.size) && ((((optReq (readI (reqLine y13))).tier) == y13.tier) && true))))))) ?_ (fun bh18 => ?_) (fun bh18 => ?_)))
      · as_aux_lemma => kernel_rfl
      ·
       have h18 := bh18
       have h18 := notT h18
       refine SEQ (REGION [0] rfl (RUN0 1 [] [(2, B false)] ?_ rfl ?_))
       · as_aux_lemma => kernel_rfl
       refine ENDOPS (NEXT (RET (OUTR (PASS trivial (PASS trivial (OUTR (PASS trivial (FIN (.bool false) ?_ () ?_ [] ?_))))))))
       · as_aux_lemma => kernel_rfl
       · (first | rfl | (exfalso; simp_all [optReq]; done) | (exfalso; simp_all [read_script hne]; done) | (simp [RV, read_script hne, sameReqs_refl]; done) | (simp_all [RV, readScript, read_script, sameReqs_refl]; done))
       · rfl
      ·
       have h18 := bh18
       have h18 := notF h18
       refine SKIP (OUTN (NEXT (REGION [0, 1, 2] rfl (RUN0 2 [2] [(3, .v (.slice a4 m2.length c5)), (5, .v (.slice a8 (((readScript (scriptText m2)).1).length) c9)), (6, I ((readScript (scriptText m2)).2)), (39, I (wr ((k : Int) + 1)))] ?_ rfl ?_))))
       · as_aux_lemma => kernel_rfl
       refine CAST (d := 39) (vi (wr ((k : Int) + 1))) (vi ((k + 1 : Nat) : Int)) ?_ (vi_cast (by omega) (by omega)) ?_
       · as_aux_lemma => kernel_rfl
       refine RUN0 1 [] [(3, .v (.slice a4 m2.length c5)), (5, .v (.slice a8 (((readScript (scriptText m2)).1).length) c9)), (6, I ((readScript (scriptText m2)).2)), (7, I ((k + 1 : Nat) : Int))] ?_ rfl ?_
       · as_aux_lemma => kernel_rfl
       refine ENDOPS (BACK (k + 1, ys14) [3, 5, 6, 7] 0 [0, 0] _ ⟨hl_y13, hd_y13⟩ (by simp) ?_ rfl rfl rfl)
       · as_aux_lemma => kernel_rfl
    ·
     have h12 := bh12
     have h12 := of_decide_eq_false h12
     obtain rfl := drop_nil hk (by omega)
     refine EXIT (PASS trivial (PASS trivial (OUT (NEXT (SEQ (REGION [0, 1, 2, 3, 4, 5, 6, 7] rfl (RUN0 3 [3, 4, 5, 6, 7] [(3, .v (.slice a4 m2.length c5)), (5, .v (.slice a8 (((readScript (scriptText m2)).1).length) c9)), (61, B (((readScript (scriptText m2)).2) == (-1)))] ?_ rfl ?_)))))))
     · as_aux_lemma => kernel_rfl
     refine SPLIT (d := 61) (((readScript (scriptText m2)).2) == (-1)) ?_ (fun bh19 => ?_) (fun bh19 => ?_)
     · as_aux_lemma => kernel_rfl
     ·
      have h19 := bh19
      have h19 := eq_of_beq h19
      refine RUN0 2 [5, 6, 7] [(61, B true), (62, .v (.slice a8 (((readScript (scriptText m2)).1).length) c9)), (63, .v (.slice a4 m2.length c5))] ?_ rfl ?_
      · as_aux_lemma => kernel_rfl
      refine OPC (CALL 12 #[.slice a8 (((readScript (scriptText m2)).1).length) c9, .slice a4 m2.length c5] (some 64) ?_ [] [] _ rfl (RV (.bool (sameReqs ((readScript (scriptText m2)).1) m2))) (fun w hw => sameReqs_c w ((readScript (scriptText m2)).1) a8 c9 (hw.rdO 1 rfl) m2 a4 c5 (hw.rdO 0 rfl)) (NO rfl) ?_)
      · as_aux_lemma => kernel_rfl
      rintro ⟨⟩
      refine RUN0 2 [] [(2, B (sameReqs ((readScript (scriptText m2)).1) m2))] ?_ rfl ?_
      · as_aux_lemma => kernel_rfl
      refine ENDOPS (NEXT (RET (FIN (.bool (sameReqs ((readScript (scriptText m2)).1) m2)) ?_ () ?_ [] ?_)))
      · as_aux_lemma => kernel_rfl
      · (first | rfl | (exfalso; simp_all [optReq]; done) | (exfalso; simp_all [read_script hne]; done) | (simp [RV, read_script hne, sameReqs_refl]; done) | (simp_all [RV, readScript, read_script, sameReqs_refl]; done))
      · rfl
     ·
      have h19 := bh19
      have h19 := ne_of_beq_false h19
      refine RUN0 5 [] [(2, B false)] ?_ rfl ?_
      · as_aux_lemma => kernel_rfl
      refine ENDOPS (NEXT (RET (FIN (.bool false) ?_ () ?_ [] ?_)))
      · as_aux_lemma => kernel_rfl
      · (first | rfl | (exfalso; simp_all [optReq]; done) | (exfalso; simp_all [read_script hne]; done) | (simp [RV, read_script hne, sameReqs_refl]; done) | (simp_all [RV, readScript, read_script, sameReqs_refl]; done))
      · rfl

end SX
end Go.Proofs.YtpdijcbgdalphabGreatDoor
