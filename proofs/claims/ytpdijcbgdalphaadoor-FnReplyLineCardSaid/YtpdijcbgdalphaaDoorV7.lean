/- Walks, printed by program. -/
import Derived.Test.YtpdijcbgdalphaaDoorV6
namespace Go.Proofs.YtpdijcbgdalphaaDoor
namespace SX
open Go Go.RowKit
set_option linter.unusedVariables false
set_option linter.unusedSimpArgs false
set_option maxRecDepth 10000
theorem sReadReq_c (W : World) (line : List UInt8) (hl : line.length ≤ 1048576) : Spec Tryd.prog W [] 23 #[.string (bs line)] (RV (.tuple #[.agg #[vi ((optReq (readS line)).kind), vi ((optReq (readS line)).id), vi ((optReq (readS line)).cabin), vi ((optReq (readS line)).from'), vi ((optReq (readS line)).size), vi ((optReq (readS line)).tier)], .bool ((readS line).isSome)])) := by
  refine ENTER0 (N := 85) (vs := [.string (bs line)]) Tryd.func23 rfl rfl (Nat.le_of_ble_eq_true rfl) ?_
  refine SEQ (REGION [0, 1] rfl (RUN 2 [] [(0, .v (.string (bs line))), (2, .p 0 0)] [(47, [vi 0, vi 0, vi 0, vi 0, vi 0, vi 0])] ?_ rfl ?_))
  · as_aux_lemma => kernel_rfl
  refine ENDOPS (NEXT (SEQ (SEQ (REGION [0, 1, 2] rfl (RUN0 3 [] [(0, .v (.string (bs line))), (2, .p 0 0), (11, B (decide ((line.length : Int) > 80)))] ?_ rfl ?_)))))
  · as_aux_lemma => kernel_rfl
  refine ENDOPS (NEXT (IF (decide ((line.length : Int) > 80)) ?_ (fun bh1 => ?_) (fun bh1 => ?_)))
  · as_aux_lemma => kernel_rfl
  · -- decide ((line.length : Int) > 80) = true
    have h1 := bh1
    have h1 := of_decide_eq_true h1
    refine SEQ (REGION [0, 1, 2] rfl (RUN0 3 [] [(2, .p 0 0), (3, B false)] ?_ rfl ?_))
    · as_aux_lemma => kernel_rfl
    refine ENDOPS (NEXT (RET (PASS trivial (FIN (.tuple #[.agg #[vi 0, vi 0, vi 0, vi 0, vi 0, vi 0], .bool false]) ?_ () ?_ [] ?_))))
    · as_aux_lemma => kernel_rfl
    · (first | (rw [readS_long (by omega)]; rfl) | (rw [readS_bad (by have h9 : (readArgs ((parts line 32).drop 1)).isSome = false := (by assumption); simpa using h9)]; rfl))
    · rfl
  · -- decide ((line.length : Int) > 80) = false
    have h1 := bh1
    have h1 := of_decide_eq_false h1
    refine SKIP (NEXT (SEQ (REGION [0, 1, 2] rfl (RUN0 1 [1, 2] [(0, .v (.string (bs line))), (2, .p 0 0), (13, .v (.string (bs line)))] ?_ rfl ?_))))
    · as_aux_lemma => kernel_rfl
    refine OPC (CALL 46 #[.string (bs line), .int .u8 32] (some 14) ?_ [] [] _ rfl (⟨HH, fun p => .slice p.1 ((parts line 32).length) p.2, fun p => [slA 9 strL (.slice p.1 (parts line 32).length p.2) (parts line 32)]⟩) (fun w hw => sParts_c w line 32 (by first | assumption | omega)) (by rintro _ ⟨⟩; exact Nat.le_of_ble_eq_true rfl) ?_)
    · as_aux_lemma => kernel_rfl
    rintro ⟨a2, c3⟩
    have hr4 := parts_len line 32
    refine RUN0 1 [] [(0, .v (.string (bs line))), (2, .p 0 0), (4, .v (.slice a2 ((parts line 32).length) c3))] ?_ rfl ?_
    · as_aux_lemma => kernel_rfl
    refine ENDOPS (NEXT (SEQ (REGION [0, 1, 2, 3, 4, 5, 6, 7] rfl (RUN0 1 [1, 2, 3, 4, 5, 6, 7] [(0, .v (.string (bs line))), (2, .p 0 0), (4, .v (.slice a2 ((parts line 32).length) c3)), (16, .v (.slice a2 ((parts line 32).length) c3))] ?_ rfl ?_))))
    · as_aux_lemma => kernel_rfl
    refine FACT (((parts line 32).length) ≤ c3) (fun w hw => SlO.capE (hw.own 0 rfl)) (fun hcap5 => ?_)
    refine FACT (((parts line 32).length) = (parts line 32).length) (fun w hw => (SlO.lenE (hw.own 0 rfl)).1) (fun hln6 => ?_)
    refine OPC (CUTL 41 (.tmp 16) (.const (vi 1)) 17 41 ?_ (Nat.le_of_ble_eq_true rfl) a2 ((parts line 32).length) c3 .i64 1 ?_ ?_ 9 strL (parts line 32) ?_ ?_ (by omega) (by first | omega | (simp only [List.length_append, List.length_cons, List.length_nil, List.length_take, List.length_drop] at *; omega)) hln6 hcap5 (fun a7 hsh8 => ?_))
    · as_aux_lemma => kernel_rfl
    · as_aux_lemma => kernel_rfl
    · as_aux_lemma => kernel_rfl
    · as_aux_lemma => kernel_rfl
    · as_aux_lemma => kernel_rfl
    have hsh8 : ∀ w, Rd strL w a2 (parts line 32) → Rd strL w a7 ((parts line 32).drop 1) := hsh8
    have hln9 : ((parts line 32).drop 1).length = ((parts line 32).length) - 1 := by first | (simp; done) | (simp; omega)
    refine CAST (d := 17) (.slice a7 (((parts line 32).length) - 1) (c3 - 1)) (.slice a7 (((parts line 32).drop 1).length) (c3 - 1)) ?_ (by rw [hln9]) ?_
    · as_aux_lemma => kernel_rfl
    refine OPC (CALL 47 #[.slice a7 (((parts line 32).drop 1).length) (c3 - 1)] (some 18) ?_ [] [] _ rfl (⟨HH, fun p => .tuple #[.slice p.1 (((readArgs ((parts line 32).drop 1)).getD []).length) p.2, .bool ((readArgs ((parts line 32).drop 1)).isSome)], fun p => [slA 3 intL (.slice p.1 ((readArgs ((parts line 32).drop 1)).getD []).length p.2) ((readArgs ((parts line 32).drop 1)).getD [])]⟩) (fun w hw => l29Nums_c w ((parts line 32).drop 1) a7 (c3 - 1) (hsh8 _ (Rd.own (hw.own 0 rfl))) (by first | omega | (simp; omega))) (by rintro _ ⟨⟩; exact Nat.le_of_ble_eq_true rfl) ?_)
    · as_aux_lemma => kernel_rfl
    rintro ⟨a10, c11⟩
    refine RUN0 5 [] [(0, .v (.string (bs line))), (2, .p 0 0), (4, .v (.slice a2 ((parts line 32).length) c3)), (5, .v (.slice a10 (((readArgs ((parts line 32).drop 1)).getD []).length) c11)), (6, B ((readArgs ((parts line 32).drop 1)).isSome))] ?_ rfl ?_
    · as_aux_lemma => kernel_rfl
    refine ENDOPS (NEXT (SEQ (SEQ (REGION [0, 1] rfl (RUN0 2 [] [(0, .v (.string (bs line))), (2, .p 0 0), (4, .v (.slice a2 ((parts line 32).length) c3)), (5, .v (.slice a10 (((readArgs ((parts line 32).drop 1)).getD []).length) c11)), (22, B (!((readArgs ((parts line 32).drop 1)).isSome)))] ?_ rfl ?_)))))
    · as_aux_lemma => kernel_rfl
    refine ENDOPS (NEXT (IF (!((readArgs ((parts line 32).drop 1)).isSome)) ?_ (fun bh12 => ?_) (fun bh12 => ?_)))
    · as_aux_lemma => kernel_rfl
    · -- !((readArgs ((parts line 32).drop 1)).isSome) = true
      have h12 := bh12
      have h12 := notT h12
      refine SEQ (REGION [0, 1, 2] rfl (RUN0 3 [] [(2, .p 0 0), (3, B false)] ?_ rfl ?_))
      · as_aux_lemma => kernel_rfl
      refine ENDOPS (NEXT (RET (PASS trivial (FIN (.tuple #[.agg #[vi 0, vi 0, vi 0, vi 0, vi 0, vi 0], .bool false]) ?_ () ?_ [] ?_))))
      · as_aux_lemma => kernel_rfl
      · (first | (rw [readS_long (by omega)]; rfl) | (rw [readS_bad (by have h9 : (readArgs ((parts line 32).drop 1)).isSome = false := (by assumption); simpa using h9)]; rfl))
      · rfl
    · -- !((readArgs ((parts line 32).drop 1)).isSome) = false
      have h12 := bh12
      have h12 := notF h12
      obtain ⟨l9, hl9⟩ := Option.isSome_iff_exists.1 h12; have hgd : (readArgs ((parts line 32).drop 1)).getD [] = l9 := (by rw [hl9]; rfl)
      refine SKIP (NEXT (SEQ (REGION [0, 1, 2] rfl (RUN 3 [] [(0, .v (.string (bs line))), (2, .p 0 0), (4, .v (.slice a2 ((parts line 32).length) c3)), (5, .v (.slice a10 (((readArgs ((parts line 32).drop 1)).getD []).length) c11)), (7, .p 1 0)] [(47, [vi 0, vi 0, vi 0, vi 0, vi 0, vi 0]), (47, [vi 0, vi 0, vi 0, vi 0, vi 0, vi 0])] ?_ rfl ?_))))
      · as_aux_lemma => kernel_rfl
      refine ENDOPS (NEXT (SEQ (SEQ (REGION [0] rfl (RUN0 1 [] [(0, .v (.string (bs line))), (2, .p 0 0), (4, .v (.slice a2 ((parts line 32).length) c3)), (5, .v (.slice a10 (((readArgs ((parts line 32).drop 1)).getD []).length) c11)), (7, .p 1 0), (8, I 1)] ?_ rfl ?_)))))
      · as_aux_lemma => kernel_rfl
      refine ENDOPS (NEXT (BLOCK (FACT (a2.isSome = true) (fun w hw => SlO.isS (hw.own 0 rfl) (by omega)) (fun hs13 => ?_))))
      obtain ⟨w0, hw0⟩ : ∃ y, (parts line 32)[0]? = some y := ⟨_, List.getElem?_eq_getElem (by omega)⟩
      refine LOOP (ι := Nat × Nat × Int) (fun j => [(0, .v (.string (bs line))), (2, .p 0 0), (4, .v (.slice a2 ((parts line 32).length) c3)), (5, .v (.slice a10 (((readArgs ((parts line 32).drop 1)).getD []).length) c11)), (7, .p 1 0), (8, I (j.2.1 : Int))]) (fun j => [(47, [vi 0, vi 0, vi 0, vi 0, vi 0, vi 0]), (47, [vi j.2.2, vi 0, vi 0, vi 0, vi 0, vi 0])]) (fun j => [slA 9 strL (.slice a2 (parts line 32).length c3) (parts line 32), slA 3 intL (.slice a10 ((readArgs ((parts line 32).drop 1)).getD []).length c11) ((readArgs ((parts line 32).drop 1)).getD [])]) (fun j => j.2.1 + j.1 = 8 ∧ kindGo w0 7 1 0 = kindGo w0 j.1 (j.2.1 : Int) j.2.2 ∧ 1 ≤ j.2.1) (fun j => j.1) (7, 1, 0) [0, 2, 4, 5, 7, 8] ⟨rfl, rfl, by decide⟩ ?_ rfl rfl ?_
      · as_aux_lemma => kernel_rfl
      rintro ⟨m, kk, z⟩ ⟨hkm, hv, hk1⟩
      dsimp only at hkm hv hk1
      refine SEQ (SEQ (REGION [0, 1] rfl (RUN0 2 [] [(0, .v (.string (bs line))), (2, .p 0 0), (4, .v (.slice a2 ((parts line 32).length) c3)), (5, .v (.slice a10 (((readArgs ((parts line 32).drop 1)).getD []).length) c11)), (7, .p 1 0), (8, I (kk : Int)), (26, B (decide ((kk : Int) ≤ 7)))] ?_ rfl ?_)))
      · as_aux_lemma => kernel_rfl
      refine ENDOPS (NEXT (IF (decide ((kk : Int) ≤ 7)) ?_ (fun bh14 => ?_) (fun bh14 => ?_)))
      · as_aux_lemma => kernel_rfl
      · -- decide ((kk : Int) ≤ 7) = true
        have h14 := bh14
        have h14 := of_decide_eq_true h14
        obtain ⟨m1, rfl⟩ : ∃ z, m = z + 1 := ⟨m - 1, by omega⟩
        refine SKIP (NEXT (SEQ (BLOCK (SEQ (REGIONQ ?_ ?_ ?_)))))
        · as_aux_lemma => kernel_rfl
        · as_aux_lemma => kernel_rfl
        refine QRUN 1 0 1 [(0, .v (.string (bs line))), (2, .p 0 0), (4, .v (.slice a2 ((parts line 32).length) c3)), (5, .v (.slice a10 (((readArgs ((parts line 32).drop 1)).getD []).length) c11)), (7, .p 1 0), (8, I (kk : Int)), (29, .v (.slice a2 ((parts line 32).length) c3))] ?_ rfl ?_
        · as_aux_lemma => kernel_rfl
        refine QINDEX 41 (.tmp 29) (.const (vi 0)) 30 0 ?_ (Nat.le_of_ble_eq_true rfl) a2 ((parts line 32).length) c3 .i64 0 9 1 ?_ ?_ ?_ ?_ hs13 (by omega) (by omega) ?_
        · as_aux_lemma => kernel_rfl
        · as_aux_lemma => kernel_rfl
        · as_aux_lemma => kernel_rfl
        · as_aux_lemma => kernel_rfl
        · as_aux_lemma => kernel_rfl
        refine QLOADE 9 (.tmp 30) 31 9 ?_ (Nat.le_of_ble_eq_true rfl) a2 (0 * 1) 0 [.string (bs w0)] (.string (bs w0)) ?_ (fun w hw => (Rd.own (hw.own 0 rfl)).flat hw0) ?_ ?_
        · as_aux_lemma => kernel_rfl
        · as_aux_lemma => kernel_rfl
        · as_aux_lemma => kernel_rfl
        refine QRUN 1 3 4 [(0, .v (.string (bs line))), (2, .p 0 0), (4, .v (.slice a2 ((parts line 32).length) c3)), (5, .v (.slice a10 (((readArgs ((parts line 32).drop 1)).getD []).length) c11)), (7, .p 1 0), (8, I (kk : Int)), (31, .v (.string (bs w0))), (32, I (kk : Int))] ?_ rfl ?_
        · as_aux_lemma => kernel_rfl
        have hr15 := reqWord_len (kk : Int)
        refine QCALL 48 #[vi (kk : Int)] (some 33) ?_ (.string (bs (reqWord (kk : Int)))) (fun w hw => l29Word_c w (kk : Int) (by omega)) (by rintro _ ⟨⟩; exact Nat.le_of_ble_eq_true rfl) ?_
        · as_aux_lemma => kernel_rfl
        refine QRUNV (.binOp .eql 9 (.tmp 31) (.tmp 33) 9) 34 4 ?_ (Nat.le_of_ble_eq_true rfl) (.bool (w0 == (reqWord (kk : Int)))) (runs_seql (a := w0) (b := reqWord (kk : Int)) ?_ ?_) ?_
        · as_aux_lemma => kernel_rfl
        · as_aux_lemma => kernel_rfl
        · as_aux_lemma => kernel_rfl
        refine QEND rfl (NEXT (IF (w0 == (reqWord (kk : Int))) ?_ (fun bh16 => ?_) (fun bh16 => ?_)))
        · as_aux_lemma => kernel_rfl
        · -- w0 == (reqWord (kk : Int)) = true
          have h16 := bh16
          have h16 := eq_of_beq h16
          refine REGION [0, 1, 2] rfl (RUN 3 [] [(0, .v (.string (bs line))), (2, .p 0 0), (4, .v (.slice a2 ((parts line 32).length) c3)), (5, .v (.slice a10 (((readArgs ((parts line 32).drop 1)).getD []).length) c11)), (7, .p 1 0), (8, I (kk : Int))] [(47, [vi 0, vi 0, vi 0, vi 0, vi 0, vi 0]), (47, [vi (kk : Int), vi 0, vi 0, vi 0, vi 0, vi 0])] ?_ rfl ?_)
          · as_aux_lemma => kernel_rfl
          refine ENDOPS (OUTN (NEXT (REGION [0, 1, 2] rfl (RUN0 2 [2] [(0, .v (.string (bs line))), (2, .p 0 0), (4, .v (.slice a2 ((parts line 32).length) c3)), (5, .v (.slice a10 (((readArgs ((parts line 32).drop 1)).getD []).length) c11)), (7, .p 1 0), (28, I (wr ((kk : Int) + 1)))] ?_ rfl ?_))))
          · as_aux_lemma => kernel_rfl
          refine CAST (d := 28) (vi (wr ((kk : Int) + 1))) (vi ((kk + 1 : Nat) : Int)) ?_ (vi_cast (by omega) (by omega)) ?_
          · as_aux_lemma => kernel_rfl
          refine RUN0 1 [] [(0, .v (.string (bs line))), (2, .p 0 0), (4, .v (.slice a2 ((parts line 32).length) c3)), (5, .v (.slice a10 (((readArgs ((parts line 32).drop 1)).getD []).length) c11)), (7, .p 1 0), (8, I ((kk + 1 : Nat) : Int))] ?_ rfl ?_
          · as_aux_lemma => kernel_rfl
          refine ENDOPS (BACK (m1, kk + 1, (kk : Int)) [0, 2, 4, 5, 7, 8] 2 [0, 0] _ ⟨by dsimp only; omega, hv.trans (by simp only [kindGo]; first | (rw [if_pos (by assumption)]; rfl) | (rw [if_neg (by assumption)]; rfl)), by dsimp only; omega⟩ (by dsimp only; omega) ?_ rfl rfl rfl)
          · as_aux_lemma => kernel_rfl
        · -- w0 == (reqWord (kk : Int)) = false
          have h16 := bh16
          have h16 := ne_of_beq_false h16
          refine SKIP (OUTN (NEXT (REGION [0, 1, 2] rfl (RUN0 2 [2] [(0, .v (.string (bs line))), (2, .p 0 0), (4, .v (.slice a2 ((parts line 32).length) c3)), (5, .v (.slice a10 (((readArgs ((parts line 32).drop 1)).getD []).length) c11)), (7, .p 1 0), (28, I (wr ((kk : Int) + 1)))] ?_ rfl ?_))))
          · as_aux_lemma => kernel_rfl
          refine CAST (d := 28) (vi (wr ((kk : Int) + 1))) (vi ((kk + 1 : Nat) : Int)) ?_ (vi_cast (by omega) (by omega)) ?_
          · as_aux_lemma => kernel_rfl
          refine RUN0 1 [] [(0, .v (.string (bs line))), (2, .p 0 0), (4, .v (.slice a2 ((parts line 32).length) c3)), (5, .v (.slice a10 (((readArgs ((parts line 32).drop 1)).getD []).length) c11)), (7, .p 1 0), (8, I ((kk + 1 : Nat) : Int))] ?_ rfl ?_
          · as_aux_lemma => kernel_rfl
          refine ENDOPS (BACK (m1, kk + 1, z) [0, 2, 4, 5, 7, 8] 2 [0, 0] _ ⟨by dsimp only; omega, hv.trans (by simp only [kindGo]; first | (rw [if_pos (by assumption)]; rfl) | (rw [if_neg (by assumption)]; rfl)), by dsimp only; omega⟩ (by dsimp only; omega) ?_ rfl rfl rfl)
          · as_aux_lemma => kernel_rfl
      · -- decide ((kk : Int) ≤ 7) = false
        have h14 := bh14
        have h14 := of_decide_eq_false h14
        obtain rfl : m = 0 := by omega
        refine EXIT (PASS trivial (PASS trivial (OUT (NEXT (SEQ (SEQ (REGION [0, 1] rfl (RUN0 2 [] [(0, .v (.string (bs line))), (2, .p 0 0), (5, .v (.slice a10 (((readArgs ((parts line 32).drop 1)).getD []).length) c11)), (7, .p 1 0), (38, I ((((readArgs ((parts line 32).drop 1)).getD []).length : Nat) : Int))] ?_ rfl ?_))))))))
        · as_aux_lemma => kernel_rfl
        refine ENDOPS (NEXT (BLOCK (SEQ (REGION [0, 1] rfl (RUN0 2 [] [(0, .v (.string (bs line))), (2, .p 0 0), (5, .v (.slice a10 (((readArgs ((parts line 32).drop 1)).getD []).length) c11)), (7, .p 1 0), (38, I ((((readArgs ((parts line 32).drop 1)).getD []).length : Nat) : Int)), (39, B (((((readArgs ((parts line 32).drop 1)).getD []).length : Nat) : Int) == 1))] ?_ rfl ?_)))))
        · as_aux_lemma => kernel_rfl
        refine ENDOPS (NEXT (IF (((((readArgs ((parts line 32).drop 1)).getD []).length : Nat) : Int) == 1) ?_ (fun bh17 => ?_) (fun bh17 => ?_)))
        · as_aux_lemma => kernel_rfl
        · -- ((((readArgs ((parts line 32).drop 1)).getD []).length : Nat) : Int) == 1 = true
          have h17 := bh17
          have h17 := eq_of_beq h17
          refine REGION [0, 1, 2, 3, 4] rfl (RUN0 1 [1, 2, 3, 4] [(0, .v (.string (bs line))), (2, .p 0 0), (7, .p 1 0), (41, .v (.slice a10 (((readArgs ((parts line 32).drop 1)).getD []).length) c11))] ?_ rfl ?_)
          · as_aux_lemma => kernel_rfl
          obtain ⟨x18, hx19⟩ : ∃ y, ((readArgs ((parts line 32).drop 1)).getD [])[0]? = some y := ⟨_, List.getElem?_eq_getElem (by omega)⟩
          refine FACT (a10.isSome = true) (fun w hw => SlO.isS (hw.own 1 rfl) (by omega)) (fun hs20 => ?_)
          refine OPC (INDEX 22 (.tmp 41) (.const (vi 0)) 42 0 ?_ (Nat.le_of_ble_eq_true rfl) a10 (((readArgs ((parts line 32).drop 1)).getD []).length) c11 .i64 0 3 1 ?_ ?_ ?_ ?_ hs20 (by omega) (by omega) ?_)
          · as_aux_lemma => kernel_rfl
          · as_aux_lemma => kernel_rfl
          · as_aux_lemma => kernel_rfl
          · as_aux_lemma => kernel_rfl
          · as_aux_lemma => kernel_rfl
          refine OPC (LOADE 3 (.tmp 42) 43 3 ?_ (Nat.le_of_ble_eq_true rfl) a10 (0 * 1) 0 [vi x18] (vi x18) ?_ (fun w hw => (Rd.own (hw.own 1 rfl)).flat hx19) ?_ ?_)
          · as_aux_lemma => kernel_rfl
          · as_aux_lemma => kernel_rfl
          · as_aux_lemma => kernel_rfl
          refine RUN 2 [] [(0, .v (.string (bs line))), (2, .p 0 0), (7, .p 1 0)] [(47, [vi 0, vi 0, vi 0, vi 0, vi 0, vi 0]), (47, [vi z, vi x18, vi 0, vi 0, vi 0, vi 0])] ?_ rfl ?_
          · as_aux_lemma => kernel_rfl
          refine ENDOPS (OUTN (NEXT (SEQ (SEQ (REGION [0, 1, 2, 3, 4, 5, 6, 7] rfl (RUN0 1 [1, 2, 3, 4, 5, 6, 7] [(0, .v (.string (bs line))), (2, .p 0 0), (7, .p 1 0), (75, .v (.agg #[vi z, vi x18, vi 0, vi 0, vi 0, vi 0]))] ?_ rfl ?_))))))
          · as_aux_lemma => kernel_rfl
          refine OPC (CALL 36 #[.agg #[vi z, vi x18, vi 0, vi 0, vi 0, vi 0]] (some 76) ?_ [] [] _ rfl (RV (.string (bs (reqLine (⟨z, x18, 0, 0, 0, 0⟩ : Req))))) (fun w hw => sReqLine_c w (⟨z, x18, 0, 0, 0, 0⟩ : Req)) (by rintro _ ⟨⟩; exact Nat.le_of_ble_eq_true rfl) ?_)
          · as_aux_lemma => kernel_rfl
          rintro ⟨⟩
          have hr21 := reqLine_len (⟨z, x18, 0, 0, 0, 0⟩ : Req)
          refine RUN0 1 [3, 4, 5, 6, 7] [(0, .v (.string (bs line))), (2, .p 0 0), (7, .p 1 0), (76, .v (.string (bs (reqLine (⟨z, x18, 0, 0, 0, 0⟩ : Req))))), (77, .v (.string (bs line)))] ?_ rfl ?_
          · as_aux_lemma => kernel_rfl
          refine OPC (RUNV (.binOp .neq 9 (.tmp 76) (.tmp 77) 9) 78 4 ?_ (Nat.le_of_ble_eq_true rfl) (.bool (!((reqLine (⟨z, x18, 0, 0, 0, 0⟩ : Req)) == line))) (runs_sneq (a := reqLine (⟨z, x18, 0, 0, 0, 0⟩ : Req)) (b := line) ?_ ?_) ?_)
          · as_aux_lemma => kernel_rfl
          · as_aux_lemma => kernel_rfl
          · as_aux_lemma => kernel_rfl
          refine RUN0 1 [5, 6, 7] [(0, .v (.string (bs line))), (2, .p 0 0), (7, .p 1 0), (79, B (!((reqLine (⟨z, x18, 0, 0, 0, 0⟩ : Req)) == line)))] ?_ rfl ?_
          · as_aux_lemma => kernel_rfl
          refine SPLIT (d := 79) (!((reqLine (⟨z, x18, 0, 0, 0, 0⟩ : Req)) == line)) ?_ (fun bh22 => ?_) (fun bh22 => ?_)
          · as_aux_lemma => kernel_rfl
          · -- !((reqLine (⟨z, x18, 0, 0, 0, 0⟩ : Req)) == line) = true
            have h22 := bh22
            have h22 := notT h22
            have h22 := ne_of_beq_false h22
            refine RUN0 3 [] [(2, .p 0 0), (7, .p 1 0), (82, B true)] ?_ rfl ?_
            · as_aux_lemma => kernel_rfl
            refine ENDOPS (NEXT (IFT ?_ ?_))
            · as_aux_lemma => kernel_rfl
            refine SEQ (REGION [0, 1, 2] rfl (RUN0 3 [] [(2, .p 0 0), (3, B false)] ?_ rfl ?_))
            · as_aux_lemma => kernel_rfl
            refine ENDOPS (NEXT (RET (PASS trivial (FIN (.tuple #[.agg #[vi 0, vi 0, vi 0, vi 0, vi 0, vi 0], .bool false]) ?_ () ?_ [] ?_))))
            · as_aux_lemma => kernel_rfl
            · (have e0 := at5_of (hgd ▸ hx19); have hv9 : kindGo w0 7 1 0 = z := hv; have hlq : ((readArgs ((parts line 32).drop 1)).getD []).length = l9.length := (by rw [hgd]); have hz := readS_of (line := line) (l := l9) (w := w0) (q := (⟨z, x18, 0, 0, 0, 0⟩ : Req)) (by omega) hl9 hw0 (by first | (rw [sReq, if_pos (by omega), hv9, ← e0]; done) | (rw [sReq, if_neg (by omega), if_pos (by omega), hv9, ← e0]; done) | (rw [sReq, if_neg (by omega), if_neg (by omega), if_pos (by omega), hv9, ← e0]; done) | (rw [sReq, if_neg (by omega), if_neg (by omega), if_neg (by omega), hv9, ← e0]; done)); simp only [RV]; rw [hz]; simp only [optReq]; first | (rw [if_pos ⟨by assumption, by assumption⟩]; rfl) | (rw [if_neg (fun e => (by first | exact absurd e.1 (by assumption) | exact absurd (by assumption) e.2))]; rfl))
            · rfl
          · -- !((reqLine (⟨z, x18, 0, 0, 0, 0⟩ : Req)) == line) = false
            have h22 := bh22
            have h22 := notF h22
            have h22 := eq_of_beq h22
            refine RUN0 1 [6, 7] [(2, .p 0 0), (7, .p 1 0), (79, B false), (80, .v (.string (bs line)))] ?_ rfl ?_
            · as_aux_lemma => kernel_rfl
            refine OPC (RUNV (.binOp .eql 9 (.tmp 80) (.const (.string (bs ([])))) 9) 81 4 ?_ (Nat.le_of_ble_eq_true rfl) (.bool (line == ([]))) (runs_seql (a := line) (b := []) ?_ ?_) ?_)
            · as_aux_lemma => kernel_rfl
            · as_aux_lemma => kernel_rfl
            · as_aux_lemma => kernel_rfl
            refine RUN0 1 [] [(2, .p 0 0), (7, .p 1 0), (82, B (line == ([])))] ?_ rfl ?_
            · as_aux_lemma => kernel_rfl
            refine ENDOPS (NEXT (IF (line == ([])) ?_ (fun bh23 => ?_) (fun bh23 => ?_)))
            · as_aux_lemma => kernel_rfl
            · -- line == ([]) = true
              have h23 := bh23
              have h23 := eq_of_beq h23
              refine SEQ (REGION [0, 1, 2] rfl (RUN0 3 [] [(2, .p 0 0), (3, B false)] ?_ rfl ?_))
              · as_aux_lemma => kernel_rfl
              refine ENDOPS (NEXT (RET (PASS trivial (FIN (.tuple #[.agg #[vi 0, vi 0, vi 0, vi 0, vi 0, vi 0], .bool false]) ?_ () ?_ [] ?_))))
              · as_aux_lemma => kernel_rfl
              · (have e0 := at5_of (hgd ▸ hx19); have hv9 : kindGo w0 7 1 0 = z := hv; have hlq : ((readArgs ((parts line 32).drop 1)).getD []).length = l9.length := (by rw [hgd]); have hz := readS_of (line := line) (l := l9) (w := w0) (q := (⟨z, x18, 0, 0, 0, 0⟩ : Req)) (by omega) hl9 hw0 (by first | (rw [sReq, if_pos (by omega), hv9, ← e0]; done) | (rw [sReq, if_neg (by omega), if_pos (by omega), hv9, ← e0]; done) | (rw [sReq, if_neg (by omega), if_neg (by omega), if_pos (by omega), hv9, ← e0]; done) | (rw [sReq, if_neg (by omega), if_neg (by omega), if_neg (by omega), hv9, ← e0]; done)); simp only [RV]; rw [hz]; simp only [optReq]; first | (rw [if_pos ⟨by assumption, by assumption⟩]; rfl) | (rw [if_neg (fun e => (by first | exact absurd e.1 (by assumption) | exact absurd (by assumption) e.2))]; rfl))
              · rfl
            · -- line == ([]) = false
              have h23 := bh23
              have h23 := ne_of_beq_false h23
              refine SKIP (NEXT (SEQ (REGION [0, 1, 2] rfl (RUN 3 [] [(2, .p 0 0), (3, B true)] [(47, [vi z, vi x18, vi 0, vi 0, vi 0, vi 0]), (47, [vi z, vi x18, vi 0, vi 0, vi 0, vi 0])] ?_ rfl ?_))))
              · as_aux_lemma => kernel_rfl
              refine ENDOPS (NEXT (RET (FIN (.tuple #[.agg #[vi z, vi x18, vi 0, vi 0, vi 0, vi 0], .bool true]) ?_ () ?_ [] ?_)))
              · as_aux_lemma => kernel_rfl
              · (have e0 := at5_of (hgd ▸ hx19); have hv9 : kindGo w0 7 1 0 = z := hv; have hlq : ((readArgs ((parts line 32).drop 1)).getD []).length = l9.length := (by rw [hgd]); have hz := readS_of (line := line) (l := l9) (w := w0) (q := (⟨z, x18, 0, 0, 0, 0⟩ : Req)) (by omega) hl9 hw0 (by first | (rw [sReq, if_pos (by omega), hv9, ← e0]; done) | (rw [sReq, if_neg (by omega), if_pos (by omega), hv9, ← e0]; done) | (rw [sReq, if_neg (by omega), if_neg (by omega), if_pos (by omega), hv9, ← e0]; done) | (rw [sReq, if_neg (by omega), if_neg (by omega), if_neg (by omega), hv9, ← e0]; done)); simp only [RV]; rw [hz]; simp only [optReq]; first | (rw [if_pos ⟨by assumption, by assumption⟩]; rfl) | (rw [if_neg (fun e => (by first | exact absurd e.1 (by assumption) | exact absurd (by assumption) e.2))]; rfl))
              · rfl
        · -- ((((readArgs ((parts line 32).drop 1)).getD []).length : Nat) : Int) == 1 = false
          have h17 := bh17
          have h17 := ne_of_beq_false h17
          refine SEQ (REGION [0, 1] rfl (RUN0 2 [] [(0, .v (.string (bs line))), (2, .p 0 0), (5, .v (.slice a10 (((readArgs ((parts line 32).drop 1)).getD []).length) c11)), (7, .p 1 0), (38, I ((((readArgs ((parts line 32).drop 1)).getD []).length : Nat) : Int)), (45, B (((((readArgs ((parts line 32).drop 1)).getD []).length : Nat) : Int) == 2))] ?_ rfl ?_))
          · as_aux_lemma => kernel_rfl
          refine ENDOPS (NEXT (IF (((((readArgs ((parts line 32).drop 1)).getD []).length : Nat) : Int) == 2) ?_ (fun bh24 => ?_) (fun bh24 => ?_)))
          · as_aux_lemma => kernel_rfl
          · -- ((((readArgs ((parts line 32).drop 1)).getD []).length : Nat) : Int) == 2 = true
            have h24 := bh24
            have h24 := eq_of_beq h24
            refine SEQ (REGION [0, 1, 2, 3, 4] rfl (RUN0 1 [1, 2, 3, 4] [(0, .v (.string (bs line))), (2, .p 0 0), (5, .v (.slice a10 (((readArgs ((parts line 32).drop 1)).getD []).length) c11)), (7, .p 1 0), (47, .v (.slice a10 (((readArgs ((parts line 32).drop 1)).getD []).length) c11))] ?_ rfl ?_))
            · as_aux_lemma => kernel_rfl
            obtain ⟨x25, hx26⟩ : ∃ y, ((readArgs ((parts line 32).drop 1)).getD [])[0]? = some y := ⟨_, List.getElem?_eq_getElem (by omega)⟩
            refine FACT (a10.isSome = true) (fun w hw => SlO.isS (hw.own 1 rfl) (by omega)) (fun hs27 => ?_)
            refine OPC (INDEX 22 (.tmp 47) (.const (vi 0)) 48 0 ?_ (Nat.le_of_ble_eq_true rfl) a10 (((readArgs ((parts line 32).drop 1)).getD []).length) c11 .i64 0 3 1 ?_ ?_ ?_ ?_ hs27 (by omega) (by omega) ?_)
            · as_aux_lemma => kernel_rfl
            · as_aux_lemma => kernel_rfl
            · as_aux_lemma => kernel_rfl
            · as_aux_lemma => kernel_rfl
            · as_aux_lemma => kernel_rfl
            refine OPC (LOADE 3 (.tmp 48) 49 3 ?_ (Nat.le_of_ble_eq_true rfl) a10 (0 * 1) 0 [vi x25] (vi x25) ?_ (fun w hw => (Rd.own (hw.own 1 rfl)).flat hx26) ?_ ?_)
            · as_aux_lemma => kernel_rfl
            · as_aux_lemma => kernel_rfl
            · as_aux_lemma => kernel_rfl
            refine RUN 2 [] [(0, .v (.string (bs line))), (2, .p 0 0), (5, .v (.slice a10 (((readArgs ((parts line 32).drop 1)).getD []).length) c11)), (7, .p 1 0)] [(47, [vi 0, vi 0, vi 0, vi 0, vi 0, vi 0]), (47, [vi z, vi 0, vi x25, vi 0, vi 0, vi 0])] ?_ rfl ?_
            · as_aux_lemma => kernel_rfl
            refine ENDOPS (NEXT (REGION [0, 1, 2, 3, 4] rfl (RUN0 1 [1, 2, 3, 4] [(0, .v (.string (bs line))), (2, .p 0 0), (7, .p 1 0), (51, .v (.slice a10 (((readArgs ((parts line 32).drop 1)).getD []).length) c11))] ?_ rfl ?_)))
            · as_aux_lemma => kernel_rfl
            obtain ⟨x28, hx29⟩ : ∃ y, ((readArgs ((parts line 32).drop 1)).getD [])[1]? = some y := ⟨_, List.getElem?_eq_getElem (by omega)⟩
            refine FACT (a10.isSome = true) (fun w hw => SlO.isS (hw.own 1 rfl) (by omega)) (fun hs30 => ?_)
            refine OPC (INDEX 22 (.tmp 51) (.const (vi 1)) 52 0 ?_ (Nat.le_of_ble_eq_true rfl) a10 (((readArgs ((parts line 32).drop 1)).getD []).length) c11 .i64 1 3 1 ?_ ?_ ?_ ?_ hs30 (by omega) (by omega) ?_)
            · as_aux_lemma => kernel_rfl
            · as_aux_lemma => kernel_rfl
            · as_aux_lemma => kernel_rfl
            · as_aux_lemma => kernel_rfl
            · as_aux_lemma => kernel_rfl
            refine OPC (LOADE 3 (.tmp 52) 53 3 ?_ (Nat.le_of_ble_eq_true rfl) a10 (1 * 1) 0 [vi x28] (vi x28) ?_ (fun w hw => (Rd.own (hw.own 1 rfl)).flat hx29) ?_ ?_)
            · as_aux_lemma => kernel_rfl
            · as_aux_lemma => kernel_rfl
            · as_aux_lemma => kernel_rfl
            refine RUN 2 [] [(0, .v (.string (bs line))), (2, .p 0 0), (7, .p 1 0)] [(47, [vi 0, vi 0, vi 0, vi 0, vi 0, vi 0]), (47, [vi z, vi 0, vi x25, vi 0, vi x28, vi 0])] ?_ rfl ?_
            · as_aux_lemma => kernel_rfl
            refine ENDOPS (OUTN (NEXT (SEQ (SEQ (REGION [0, 1, 2, 3, 4, 5, 6, 7] rfl (RUN0 1 [1, 2, 3, 4, 5, 6, 7] [(0, .v (.string (bs line))), (2, .p 0 0), (7, .p 1 0), (75, .v (.agg #[vi z, vi 0, vi x25, vi 0, vi x28, vi 0]))] ?_ rfl ?_))))))
            · as_aux_lemma => kernel_rfl
            refine OPC (CALL 36 #[.agg #[vi z, vi 0, vi x25, vi 0, vi x28, vi 0]] (some 76) ?_ [] [] _ rfl (RV (.string (bs (reqLine (⟨z, 0, x25, 0, x28, 0⟩ : Req))))) (fun w hw => sReqLine_c w (⟨z, 0, x25, 0, x28, 0⟩ : Req)) (by rintro _ ⟨⟩; exact Nat.le_of_ble_eq_true rfl) ?_)
            · as_aux_lemma => kernel_rfl
            rintro ⟨⟩
            have hr31 := reqLine_len (⟨z, 0, x25, 0, x28, 0⟩ : Req)
            refine RUN0 1 [3, 4, 5, 6, 7] [(0, .v (.string (bs line))), (2, .p 0 0), (7, .p 1 0), (76, .v (.string (bs (reqLine (⟨z, 0, x25, 0, x28, 0⟩ : Req))))), (77, .v (.string (bs line)))] ?_ rfl ?_
            · as_aux_lemma => kernel_rfl
            refine OPC (RUNV (.binOp .neq 9 (.tmp 76) (.tmp 77) 9) 78 4 ?_ (Nat.le_of_ble_eq_true rfl) (.bool (!((reqLine (⟨z, 0, x25, 0, x28, 0⟩ : Req)) == line))) (runs_sneq (a := reqLine (⟨z, 0, x25, 0, x28, 0⟩ : Req)) (b := line) ?_ ?_) ?_)
            · as_aux_lemma => kernel_rfl
            · as_aux_lemma => kernel_rfl
            · as_aux_lemma => kernel_rfl
            refine RUN0 1 [5, 6, 7] [(0, .v (.string (bs line))), (2, .p 0 0), (7, .p 1 0), (79, B (!((reqLine (⟨z, 0, x25, 0, x28, 0⟩ : Req)) == line)))] ?_ rfl ?_
            · as_aux_lemma => kernel_rfl
            refine SPLIT (d := 79) (!((reqLine (⟨z, 0, x25, 0, x28, 0⟩ : Req)) == line)) ?_ (fun bh32 => ?_) (fun bh32 => ?_)
            · as_aux_lemma => kernel_rfl
            · -- !((reqLine (⟨z, 0, x25, 0, x28, 0⟩ : Req)) == line) = true
              have h32 := bh32
              have h32 := notT h32
              have h32 := ne_of_beq_false h32
              refine RUN0 3 [] [(2, .p 0 0), (7, .p 1 0), (82, B true)] ?_ rfl ?_
              · as_aux_lemma => kernel_rfl
              refine ENDOPS (NEXT (IFT ?_ ?_))
              · as_aux_lemma => kernel_rfl
              refine SEQ (REGION [0, 1, 2] rfl (RUN0 3 [] [(2, .p 0 0), (3, B false)] ?_ rfl ?_))
              · as_aux_lemma => kernel_rfl
              refine ENDOPS (NEXT (RET (PASS trivial (FIN (.tuple #[.agg #[vi 0, vi 0, vi 0, vi 0, vi 0, vi 0], .bool false]) ?_ () ?_ [] ?_))))
              · as_aux_lemma => kernel_rfl
              · (have e0 := at5_of (hgd ▸ hx26); have e1 := at5_of (hgd ▸ hx29); have hv9 : kindGo w0 7 1 0 = z := hv; have hlq : ((readArgs ((parts line 32).drop 1)).getD []).length = l9.length := (by rw [hgd]); have hz := readS_of (line := line) (l := l9) (w := w0) (q := (⟨z, 0, x25, 0, x28, 0⟩ : Req)) (by omega) hl9 hw0 (by first | (rw [sReq, if_pos (by omega), hv9, ← e0, ← e1]; done) | (rw [sReq, if_neg (by omega), if_pos (by omega), hv9, ← e0, ← e1]; done) | (rw [sReq, if_neg (by omega), if_neg (by omega), if_pos (by omega), hv9, ← e0, ← e1]; done) | (rw [sReq, if_neg (by omega), if_neg (by omega), if_neg (by omega), hv9, ← e0, ← e1]; done)); simp only [RV]; rw [hz]; simp only [optReq]; first | (rw [if_pos ⟨by assumption, by assumption⟩]; rfl) | (rw [if_neg (fun e => (by first | exact absurd e.1 (by assumption) | exact absurd (by assumption) e.2))]; rfl))
              · rfl
            · -- !((reqLine (⟨z, 0, x25, 0, x28, 0⟩ : Req)) == line) = false
              have h32 := bh32
              have h32 := notF h32
              have h32 := eq_of_beq h32
              refine RUN0 1 [6, 7] [(2, .p 0 0), (7, .p 1 0), (79, B false), (80, .v (.string (bs line)))] ?_ rfl ?_
              · as_aux_lemma => kernel_rfl
              refine OPC (RUNV (.binOp .eql 9 (.tmp 80) (.const (.string (bs ([])))) 9) 81 4 ?_ (Nat.le_of_ble_eq_true rfl) (.bool (line == ([]))) (runs_seql (a := line) (b := []) ?_ ?_) ?_)
              · as_aux_lemma => kernel_rfl
              · as_aux_lemma => kernel_rfl
              · as_aux_lemma => kernel_rfl
              refine RUN0 1 [] [(2, .p 0 0), (7, .p 1 0), (82, B (line == ([])))] ?_ rfl ?_
              · as_aux_lemma => kernel_rfl
              refine ENDOPS (NEXT (IF (line == ([])) ?_ (fun bh33 => ?_) (fun bh33 => ?_)))
              · as_aux_lemma => kernel_rfl
              · -- line == ([]) = true
                have h33 := bh33
                have h33 := eq_of_beq h33
                refine SEQ (REGION [0, 1, 2] rfl (RUN0 3 [] [(2, .p 0 0), (3, B false)] ?_ rfl ?_))
                · as_aux_lemma => kernel_rfl
                refine ENDOPS (NEXT (RET (PASS trivial (FIN (.tuple #[.agg #[vi 0, vi 0, vi 0, vi 0, vi 0, vi 0], .bool false]) ?_ () ?_ [] ?_))))
                · as_aux_lemma => kernel_rfl
                · (have e0 := at5_of (hgd ▸ hx26); have e1 := at5_of (hgd ▸ hx29); have hv9 : kindGo w0 7 1 0 = z := hv; have hlq : ((readArgs ((parts line 32).drop 1)).getD []).length = l9.length := (by rw [hgd]); have hz := readS_of (line := line) (l := l9) (w := w0) (q := (⟨z, 0, x25, 0, x28, 0⟩ : Req)) (by omega) hl9 hw0 (by first | (rw [sReq, if_pos (by omega), hv9, ← e0, ← e1]; done) | (rw [sReq, if_neg (by omega), if_pos (by omega), hv9, ← e0, ← e1]; done) | (rw [sReq, if_neg (by omega), if_neg (by omega), if_pos (by omega), hv9, ← e0, ← e1]; done) | (rw [sReq, if_neg (by omega), if_neg (by omega), if_neg (by omega), hv9, ← e0, ← e1]; done)); simp only [RV]; rw [hz]; simp only [optReq]; first | (rw [if_pos ⟨by assumption, by assumption⟩]; rfl) | (rw [if_neg (fun e => (by first | exact absurd e.1 (by assumption) | exact absurd (by assumption) e.2))]; rfl))
                · rfl
              · -- line == ([]) = false
                have h33 := bh33
                have h33 := ne_of_beq_false h33
                refine SKIP (NEXT (SEQ (REGION [0, 1, 2] rfl (RUN 3 [] [(2, .p 0 0), (3, B true)] [(47, [vi z, vi 0, vi x25, vi 0, vi x28, vi 0]), (47, [vi z, vi 0, vi x25, vi 0, vi x28, vi 0])] ?_ rfl ?_))))
                · as_aux_lemma => kernel_rfl
                refine ENDOPS (NEXT (RET (FIN (.tuple #[.agg #[vi z, vi 0, vi x25, vi 0, vi x28, vi 0], .bool true]) ?_ () ?_ [] ?_)))
                · as_aux_lemma => kernel_rfl
                · (have e0 := at5_of (hgd ▸ hx26); have e1 := at5_of (hgd ▸ hx29); have hv9 : kindGo w0 7 1 0 = z := hv; have hlq : ((readArgs ((parts line 32).drop 1)).getD []).length = l9.length := (by rw [hgd]); have hz := readS_of (line := line) (l := l9) (w := w0) (q := (⟨z, 0, x25, 0, x28, 0⟩ : Req)) (by omega) hl9 hw0 (by first | (rw [sReq, if_pos (by omega), hv9, ← e0, ← e1]; done) | (rw [sReq, if_neg (by omega), if_pos (by omega), hv9, ← e0, ← e1]; done) | (rw [sReq, if_neg (by omega), if_neg (by omega), if_pos (by omega), hv9, ← e0, ← e1]; done) | (rw [sReq, if_neg (by omega), if_neg (by omega), if_neg (by omega), hv9, ← e0, ← e1]; done)); simp only [RV]; rw [hz]; simp only [optReq]; first | (rw [if_pos ⟨by assumption, by assumption⟩]; rfl) | (rw [if_neg (fun e => (by first | exact absurd e.1 (by assumption) | exact absurd (by assumption) e.2))]; rfl))
                · rfl
          · -- ((((readArgs ((parts line 32).drop 1)).getD []).length : Nat) : Int) == 2 = false
            have h24 := bh24
            have h24 := ne_of_beq_false h24
            refine SEQ (REGION [0, 1] rfl (RUN0 2 [] [(0, .v (.string (bs line))), (2, .p 0 0), (5, .v (.slice a10 (((readArgs ((parts line 32).drop 1)).getD []).length) c11)), (7, .p 1 0), (55, B (((((readArgs ((parts line 32).drop 1)).getD []).length : Nat) : Int) == 5))] ?_ rfl ?_))
            · as_aux_lemma => kernel_rfl
            refine ENDOPS (NEXT (IF (((((readArgs ((parts line 32).drop 1)).getD []).length : Nat) : Int) == 5) ?_ (fun bh34 => ?_) (fun bh34 => ?_)))
            · as_aux_lemma => kernel_rfl
            · -- ((((readArgs ((parts line 32).drop 1)).getD []).length : Nat) : Int) == 5 = true
              have h34 := bh34
              have h34 := eq_of_beq h34
              refine REGIONH ?_ 19 rfl [slA 9 strL (.slice a2 (parts line 32).length c3) (parts line 32), slA 3 intL (.slice a10 ((readArgs ((parts line 32).drop 1)).getD []).length c11) ((readArgs ((parts line 32).drop 1)).getD [])] ?_
              · as_aux_lemma => kernel_rfl
              refine HPURE 0 [(0, .v (.string (bs line))), (2, .p 0 0), (5, .v (.slice a10 (((readArgs ((parts line 32).drop 1)).getD []).length) c11)), (7, .p 1 0), (57, .p 1 0)] ?_ ?_ rfl ?_
              · as_aux_lemma => kernel_rfl
              · as_aux_lemma => kernel_rfl
              refine HPURE 2 [(0, .v (.string (bs line))), (2, .p 0 0), (5, .v (.slice a10 (((readArgs ((parts line 32).drop 1)).getD []).length) c11)), (7, .p 1 0), (57, .p 1 0), (59, .v (.slice a10 (((readArgs ((parts line 32).drop 1)).getD []).length) c11))] ?_ ?_ rfl ?_
              · as_aux_lemma => kernel_rfl
              · as_aux_lemma => kernel_rfl
              obtain ⟨x35, hx36⟩ : ∃ y, ((readArgs ((parts line 32).drop 1)).getD [])[0]? = some y := ⟨_, List.getElem?_eq_getElem (by omega)⟩
              refine FACT (a10.isSome = true) (fun w hw => SlO.isS (hw.own 1 rfl) (by omega)) (fun hs37 => ?_)
              refine HINDEX (i := 3)  22 (.tmp 59) (.const (vi 0)) 60 0 ?_ (Nat.le_of_ble_eq_true rfl) a10 (((readArgs ((parts line 32).drop 1)).getD []).length) c11 .i64 0 3 1 ?_ ?_ ?_ ?_ hs37 (by omega) (by omega) ?_ rfl ?_
              · as_aux_lemma => kernel_rfl
              · as_aux_lemma => kernel_rfl
              · as_aux_lemma => kernel_rfl
              · as_aux_lemma => kernel_rfl
              · as_aux_lemma => kernel_rfl
              · as_aux_lemma => kernel_rfl
              refine HLOADE (i := 4)  3 (.tmp 60) 61 3 ?_ (Nat.le_of_ble_eq_true rfl) a10 (0 * 1) 0 [vi x35] (vi x35) ?_ (fun w hw => (Rd.own (hw.own 1 rfl)).flat hx36) ?_ ?_ rfl ?_
              · as_aux_lemma => kernel_rfl
              · as_aux_lemma => kernel_rfl
              · as_aux_lemma => kernel_rfl
              · as_aux_lemma => kernel_rfl
              refine HPURE 5 [(0, .v (.string (bs line))), (2, .p 0 0), (5, .v (.slice a10 (((readArgs ((parts line 32).drop 1)).getD []).length) c11)), (7, .p 1 0), (57, .p 1 0), (61, I x35), (62, .v (.slice a10 (((readArgs ((parts line 32).drop 1)).getD []).length) c11))] ?_ ?_ rfl ?_
              · as_aux_lemma => kernel_rfl
              · as_aux_lemma => kernel_rfl
              obtain ⟨x38, hx39⟩ : ∃ y, ((readArgs ((parts line 32).drop 1)).getD [])[1]? = some y := ⟨_, List.getElem?_eq_getElem (by omega)⟩
              refine FACT (a10.isSome = true) (fun w hw => SlO.isS (hw.own 1 rfl) (by omega)) (fun hs40 => ?_)
              refine HINDEX (i := 6)  22 (.tmp 62) (.const (vi 1)) 63 0 ?_ (Nat.le_of_ble_eq_true rfl) a10 (((readArgs ((parts line 32).drop 1)).getD []).length) c11 .i64 1 3 1 ?_ ?_ ?_ ?_ hs40 (by omega) (by omega) ?_ rfl ?_
              · as_aux_lemma => kernel_rfl
              · as_aux_lemma => kernel_rfl
              · as_aux_lemma => kernel_rfl
              · as_aux_lemma => kernel_rfl
              · as_aux_lemma => kernel_rfl
              · as_aux_lemma => kernel_rfl
              refine HLOADE (i := 7)  3 (.tmp 63) 64 3 ?_ (Nat.le_of_ble_eq_true rfl) a10 (1 * 1) 0 [vi x38] (vi x38) ?_ (fun w hw => (Rd.own (hw.own 1 rfl)).flat hx39) ?_ ?_ rfl ?_
              · as_aux_lemma => kernel_rfl
              · as_aux_lemma => kernel_rfl
              · as_aux_lemma => kernel_rfl
              · as_aux_lemma => kernel_rfl
              refine HPURE 8 [(0, .v (.string (bs line))), (2, .p 0 0), (5, .v (.slice a10 (((readArgs ((parts line 32).drop 1)).getD []).length) c11)), (7, .p 1 0), (57, .p 1 0), (61, I x35), (64, I x38), (65, .v (.slice a10 (((readArgs ((parts line 32).drop 1)).getD []).length) c11))] ?_ ?_ rfl ?_
              · as_aux_lemma => kernel_rfl
              · as_aux_lemma => kernel_rfl
              obtain ⟨x41, hx42⟩ : ∃ y, ((readArgs ((parts line 32).drop 1)).getD [])[2]? = some y := ⟨_, List.getElem?_eq_getElem (by omega)⟩
              refine FACT (a10.isSome = true) (fun w hw => SlO.isS (hw.own 1 rfl) (by omega)) (fun hs43 => ?_)
              refine HINDEX (i := 9)  22 (.tmp 65) (.const (vi 2)) 66 0 ?_ (Nat.le_of_ble_eq_true rfl) a10 (((readArgs ((parts line 32).drop 1)).getD []).length) c11 .i64 2 3 1 ?_ ?_ ?_ ?_ hs43 (by omega) (by omega) ?_ rfl ?_
              · as_aux_lemma => kernel_rfl
              · as_aux_lemma => kernel_rfl
              · as_aux_lemma => kernel_rfl
              · as_aux_lemma => kernel_rfl
              · as_aux_lemma => kernel_rfl
              · as_aux_lemma => kernel_rfl
              refine HLOADE (i := 10)  3 (.tmp 66) 67 3 ?_ (Nat.le_of_ble_eq_true rfl) a10 (2 * 1) 0 [vi x41] (vi x41) ?_ (fun w hw => (Rd.own (hw.own 1 rfl)).flat hx42) ?_ ?_ rfl ?_
              · as_aux_lemma => kernel_rfl
              · as_aux_lemma => kernel_rfl
              · as_aux_lemma => kernel_rfl
              · as_aux_lemma => kernel_rfl
              refine HPURE 11 [(0, .v (.string (bs line))), (2, .p 0 0), (5, .v (.slice a10 (((readArgs ((parts line 32).drop 1)).getD []).length) c11)), (7, .p 1 0), (57, .p 1 0), (61, I x35), (64, I x38), (67, I x41), (68, .v (.slice a10 (((readArgs ((parts line 32).drop 1)).getD []).length) c11))] ?_ ?_ rfl ?_
              · as_aux_lemma => kernel_rfl
              · as_aux_lemma => kernel_rfl
              obtain ⟨x44, hx45⟩ : ∃ y, ((readArgs ((parts line 32).drop 1)).getD [])[3]? = some y := ⟨_, List.getElem?_eq_getElem (by omega)⟩
              refine FACT (a10.isSome = true) (fun w hw => SlO.isS (hw.own 1 rfl) (by omega)) (fun hs46 => ?_)
              refine HINDEX (i := 12)  22 (.tmp 68) (.const (vi 3)) 69 0 ?_ (Nat.le_of_ble_eq_true rfl) a10 (((readArgs ((parts line 32).drop 1)).getD []).length) c11 .i64 3 3 1 ?_ ?_ ?_ ?_ hs46 (by omega) (by omega) ?_ rfl ?_
              · as_aux_lemma => kernel_rfl
              · as_aux_lemma => kernel_rfl
              · as_aux_lemma => kernel_rfl
              · as_aux_lemma => kernel_rfl
              · as_aux_lemma => kernel_rfl
              · as_aux_lemma => kernel_rfl
              refine HLOADE (i := 13)  3 (.tmp 69) 70 3 ?_ (Nat.le_of_ble_eq_true rfl) a10 (3 * 1) 0 [vi x44] (vi x44) ?_ (fun w hw => (Rd.own (hw.own 1 rfl)).flat hx45) ?_ ?_ rfl ?_
              · as_aux_lemma => kernel_rfl
              · as_aux_lemma => kernel_rfl
              · as_aux_lemma => kernel_rfl
              · as_aux_lemma => kernel_rfl
              refine HPURE 14 [(0, .v (.string (bs line))), (2, .p 0 0), (7, .p 1 0), (57, .p 1 0), (61, I x35), (64, I x38), (67, I x41), (70, I x44), (71, .v (.slice a10 (((readArgs ((parts line 32).drop 1)).getD []).length) c11))] ?_ ?_ rfl ?_
              · as_aux_lemma => kernel_rfl
              · as_aux_lemma => kernel_rfl
              obtain ⟨x47, hx48⟩ : ∃ y, ((readArgs ((parts line 32).drop 1)).getD [])[4]? = some y := ⟨_, List.getElem?_eq_getElem (by omega)⟩
              refine FACT (a10.isSome = true) (fun w hw => SlO.isS (hw.own 1 rfl) (by omega)) (fun hs49 => ?_)
              refine HINDEX (i := 15)  22 (.tmp 71) (.const (vi 4)) 72 0 ?_ (Nat.le_of_ble_eq_true rfl) a10 (((readArgs ((parts line 32).drop 1)).getD []).length) c11 .i64 4 3 1 ?_ ?_ ?_ ?_ hs49 (by omega) (by omega) ?_ rfl ?_
              · as_aux_lemma => kernel_rfl
              · as_aux_lemma => kernel_rfl
              · as_aux_lemma => kernel_rfl
              · as_aux_lemma => kernel_rfl
              · as_aux_lemma => kernel_rfl
              · as_aux_lemma => kernel_rfl
              refine HLOADE (i := 16)  3 (.tmp 72) 73 3 ?_ (Nat.le_of_ble_eq_true rfl) a10 (4 * 1) 0 [vi x47] (vi x47) ?_ (fun w hw => (Rd.own (hw.own 1 rfl)).flat hx48) ?_ ?_ rfl ?_
              · as_aux_lemma => kernel_rfl
              · as_aux_lemma => kernel_rfl
              · as_aux_lemma => kernel_rfl
              · as_aux_lemma => kernel_rfl
              refine HALL [1] ?_ (by decide) ?_
              · as_aux_lemma => kernel_rfl
              refine RUNO [(0, .v (.string (bs line))), (2, .p 0 0), (7, .p 1 0), (58, I z), (61, I x35), (64, I x38), (67, I x41), (70, I x44), (73, I x47)] [(47, [vi 0, vi 0, vi 0, vi 0, vi 0, vi 0]), (47, [vi z, vi 0, vi 0, vi 0, vi 0, vi 0])] ?_ ?_
              · as_aux_lemma => kernel_rfl
              refine HKEEP rfl (HPURE 17 [(0, .v (.string (bs line))), (2, .p 0 0), (7, .p 1 0), (74, .v (.agg #[vi z, vi x35, vi x38, vi x41, vi x44, vi x47]))] ?_ ?_ rfl ?_)
              · as_aux_lemma => kernel_rfl
              · as_aux_lemma => kernel_rfl
              refine HALL [18] ?_ (by decide) ?_
              · as_aux_lemma => kernel_rfl
              refine RUNO [(0, .v (.string (bs line))), (2, .p 0 0), (7, .p 1 0)] [(47, [vi 0, vi 0, vi 0, vi 0, vi 0, vi 0]), (47, [vi z, vi x35, vi x38, vi x41, vi x44, vi x47])] ?_ ?_
              · as_aux_lemma => kernel_rfl
              refine HKEEP rfl (HEND ?_ ?_)
              · as_aux_lemma => kernel_rfl
              refine OUTN (NEXT (SEQ (SEQ (REGION [0, 1, 2, 3, 4, 5, 6, 7] rfl (RUN0 1 [1, 2, 3, 4, 5, 6, 7] [(0, .v (.string (bs line))), (2, .p 0 0), (7, .p 1 0), (75, .v (.agg #[vi z, vi x35, vi x38, vi x41, vi x44, vi x47]))] ?_ rfl ?_)))))
              · as_aux_lemma => kernel_rfl
              refine OPC (CALL 36 #[.agg #[vi z, vi x35, vi x38, vi x41, vi x44, vi x47]] (some 76) ?_ [] [] _ rfl (RV (.string (bs (reqLine (⟨z, x35, x38, x41, x44, x47⟩ : Req))))) (fun w hw => sReqLine_c w (⟨z, x35, x38, x41, x44, x47⟩ : Req)) (by rintro _ ⟨⟩; exact Nat.le_of_ble_eq_true rfl) ?_)
              · as_aux_lemma => kernel_rfl
              rintro ⟨⟩
              have hr50 := reqLine_len (⟨z, x35, x38, x41, x44, x47⟩ : Req)
              refine RUN0 1 [3, 4, 5, 6, 7] [(0, .v (.string (bs line))), (2, .p 0 0), (7, .p 1 0), (76, .v (.string (bs (reqLine (⟨z, x35, x38, x41, x44, x47⟩ : Req))))), (77, .v (.string (bs line)))] ?_ rfl ?_
              · as_aux_lemma => kernel_rfl
              refine OPC (RUNV (.binOp .neq 9 (.tmp 76) (.tmp 77) 9) 78 4 ?_ (Nat.le_of_ble_eq_true rfl) (.bool (!((reqLine (⟨z, x35, x38, x41, x44, x47⟩ : Req)) == line))) (runs_sneq (a := reqLine (⟨z, x35, x38, x41, x44, x47⟩ : Req)) (b := line) ?_ ?_) ?_)
              · as_aux_lemma => kernel_rfl
              · as_aux_lemma => kernel_rfl
              · as_aux_lemma => kernel_rfl
              refine RUN0 1 [5, 6, 7] [(0, .v (.string (bs line))), (2, .p 0 0), (7, .p 1 0), (79, B (!((reqLine (⟨z, x35, x38, x41, x44, x47⟩ : Req)) == line)))] ?_ rfl ?_
              · as_aux_lemma => kernel_rfl
              refine SPLIT (d := 79) (!((reqLine (⟨z, x35, x38, x41, x44, x47⟩ : Req)) == line)) ?_ (fun bh51 => ?_) (fun bh51 => ?_)
              · as_aux_lemma => kernel_rfl
              · -- !((reqLine (⟨z, x35, x38, x41, x44, x47⟩ : Req)) == line) = true
                have h51 := bh51
                have h51 := notT h51
                have h51 := ne_of_beq_false h51
                refine RUN0 3 [] [(2, .p 0 0), (7, .p 1 0), (82, B true)] ?_ rfl ?_
                · as_aux_lemma => kernel_rfl
                refine ENDOPS (NEXT (IFT ?_ ?_))
                · as_aux_lemma => kernel_rfl
                refine SEQ (REGION [0, 1, 2] rfl (RUN0 3 [] [(2, .p 0 0), (3, B false)] ?_ rfl ?_))
                · as_aux_lemma => kernel_rfl
                refine ENDOPS (NEXT (RET (PASS trivial (FIN (.tuple #[.agg #[vi 0, vi 0, vi 0, vi 0, vi 0, vi 0], .bool false]) ?_ () ?_ [] ?_))))
                · as_aux_lemma => kernel_rfl
                · (have e0 := at5_of (hgd ▸ hx36); have e1 := at5_of (hgd ▸ hx39); have e2 := at5_of (hgd ▸ hx42); have e3 := at5_of (hgd ▸ hx45); have e4 := at5_of (hgd ▸ hx48); have hv9 : kindGo w0 7 1 0 = z := hv; have hlq : ((readArgs ((parts line 32).drop 1)).getD []).length = l9.length := (by rw [hgd]); have hz := readS_of (line := line) (l := l9) (w := w0) (q := (⟨z, x35, x38, x41, x44, x47⟩ : Req)) (by omega) hl9 hw0 (by first | (rw [sReq, if_pos (by omega), hv9, ← e0, ← e1, ← e2, ← e3, ← e4]; done) | (rw [sReq, if_neg (by omega), if_pos (by omega), hv9, ← e0, ← e1, ← e2, ← e3, ← e4]; done) | (rw [sReq, if_neg (by omega), if_neg (by omega), if_pos (by omega), hv9, ← e0, ← e1, ← e2, ← e3, ← e4]; done) | (rw [sReq, if_neg (by omega), if_neg (by omega), if_neg (by omega), hv9, ← e0, ← e1, ← e2, ← e3, ← e4]; done)); simp only [RV]; rw [hz]; simp only [optReq]; first | (rw [if_pos ⟨by assumption, by assumption⟩]; rfl) | (rw [if_neg (fun e => (by first | exact absurd e.1 (by assumption) | exact absurd (by assumption) e.2))]; rfl))
                · rfl
              · -- !((reqLine (⟨z, x35, x38, x41, x44, x47⟩ : Req)) == line) = false
                have h51 := bh51
                have h51 := notF h51
                have h51 := eq_of_beq h51
                refine RUN0 1 [6, 7] [(2, .p 0 0), (7, .p 1 0), (79, B false), (80, .v (.string (bs line)))] ?_ rfl ?_
                · as_aux_lemma => kernel_rfl
                refine OPC (RUNV (.binOp .eql 9 (.tmp 80) (.const (.string (bs ([])))) 9) 81 4 ?_ (Nat.le_of_ble_eq_true rfl) (.bool (line == ([]))) (runs_seql (a := line) (b := []) ?_ ?_) ?_)
                · as_aux_lemma => kernel_rfl
                · as_aux_lemma => kernel_rfl
                · as_aux_lemma => kernel_rfl
                refine RUN0 1 [] [(2, .p 0 0), (7, .p 1 0), (82, B (line == ([])))] ?_ rfl ?_
                · as_aux_lemma => kernel_rfl
                refine ENDOPS (NEXT (IF (line == ([])) ?_ (fun bh52 => ?_) (fun bh52 => ?_)))
                · as_aux_lemma => kernel_rfl
                · -- line == ([]) = true
                  have h52 := bh52
                  have h52 := eq_of_beq h52
                  refine SEQ (REGION [0, 1, 2] rfl (RUN0 3 [] [(2, .p 0 0), (3, B false)] ?_ rfl ?_))
                  · as_aux_lemma => kernel_rfl
                  refine ENDOPS (NEXT (RET (PASS trivial (FIN (.tuple #[.agg #[vi 0, vi 0, vi 0, vi 0, vi 0, vi 0], .bool false]) ?_ () ?_ [] ?_))))
                  · as_aux_lemma => kernel_rfl
                  · (have e0 := at5_of (hgd ▸ hx36); have e1 := at5_of (hgd ▸ hx39); have e2 := at5_of (hgd ▸ hx42); have e3 := at5_of (hgd ▸ hx45); have e4 := at5_of (hgd ▸ hx48); have hv9 : kindGo w0 7 1 0 = z := hv; have hlq : ((readArgs ((parts line 32).drop 1)).getD []).length = l9.length := (by rw [hgd]); have hz := readS_of (line := line) (l := l9) (w := w0) (q := (⟨z, x35, x38, x41, x44, x47⟩ : Req)) (by omega) hl9 hw0 (by first | (rw [sReq, if_pos (by omega), hv9, ← e0, ← e1, ← e2, ← e3, ← e4]; done) | (rw [sReq, if_neg (by omega), if_pos (by omega), hv9, ← e0, ← e1, ← e2, ← e3, ← e4]; done) | (rw [sReq, if_neg (by omega), if_neg (by omega), if_pos (by omega), hv9, ← e0, ← e1, ← e2, ← e3, ← e4]; done) | (rw [sReq, if_neg (by omega), if_neg (by omega), if_neg (by omega), hv9, ← e0, ← e1, ← e2, ← e3, ← e4]; done)); simp only [RV]; rw [hz]; simp only [optReq]; first | (rw [if_pos ⟨by assumption, by assumption⟩]; rfl) | (rw [if_neg (fun e => (by first | exact absurd e.1 (by assumption) | exact absurd (by assumption) e.2))]; rfl))
                  · rfl
                · -- line == ([]) = false
                  have h52 := bh52
                  have h52 := ne_of_beq_false h52
                  refine SKIP (NEXT (SEQ (REGION [0, 1, 2] rfl (RUN 3 [] [(2, .p 0 0), (3, B true)] [(47, [vi z, vi x35, vi x38, vi x41, vi x44, vi x47]), (47, [vi z, vi x35, vi x38, vi x41, vi x44, vi x47])] ?_ rfl ?_))))
                  · as_aux_lemma => kernel_rfl
                  refine ENDOPS (NEXT (RET (FIN (.tuple #[.agg #[vi z, vi x35, vi x38, vi x41, vi x44, vi x47], .bool true]) ?_ () ?_ [] ?_)))
                  · as_aux_lemma => kernel_rfl
                  · (have e0 := at5_of (hgd ▸ hx36); have e1 := at5_of (hgd ▸ hx39); have e2 := at5_of (hgd ▸ hx42); have e3 := at5_of (hgd ▸ hx45); have e4 := at5_of (hgd ▸ hx48); have hv9 : kindGo w0 7 1 0 = z := hv; have hlq : ((readArgs ((parts line 32).drop 1)).getD []).length = l9.length := (by rw [hgd]); have hz := readS_of (line := line) (l := l9) (w := w0) (q := (⟨z, x35, x38, x41, x44, x47⟩ : Req)) (by omega) hl9 hw0 (by first | (rw [sReq, if_pos (by omega), hv9, ← e0, ← e1, ← e2, ← e3, ← e4]; done) | (rw [sReq, if_neg (by omega), if_pos (by omega), hv9, ← e0, ← e1, ← e2, ← e3, ← e4]; done) | (rw [sReq, if_neg (by omega), if_neg (by omega), if_pos (by omega), hv9, ← e0, ← e1, ← e2, ← e3, ← e4]; done) | (rw [sReq, if_neg (by omega), if_neg (by omega), if_neg (by omega), hv9, ← e0, ← e1, ← e2, ← e3, ← e4]; done)); simp only [RV]; rw [hz]; simp only [optReq]; first | (rw [if_pos ⟨by assumption, by assumption⟩]; rfl) | (rw [if_neg (fun e => (by first | exact absurd e.1 (by assumption) | exact absurd (by assumption) e.2))]; rfl))
                  · rfl
            · -- ((((readArgs ((parts line 32).drop 1)).getD []).length : Nat) : Int) == 5 = false
              have h34 := bh34
              have h34 := ne_of_beq_false h34
              refine SKIP (OUTN (NEXT (SEQ (SEQ (REGION [0, 1, 2, 3, 4, 5, 6, 7] rfl (RUN0 1 [1, 2, 3, 4, 5, 6, 7] [(0, .v (.string (bs line))), (2, .p 0 0), (7, .p 1 0), (75, .v (.agg #[vi z, vi 0, vi 0, vi 0, vi 0, vi 0]))] ?_ rfl ?_))))))
              · as_aux_lemma => kernel_rfl
              refine OPC (CALL 36 #[.agg #[vi z, vi 0, vi 0, vi 0, vi 0, vi 0]] (some 76) ?_ [] [] _ rfl (RV (.string (bs (reqLine (⟨z, 0, 0, 0, 0, 0⟩ : Req))))) (fun w hw => sReqLine_c w (⟨z, 0, 0, 0, 0, 0⟩ : Req)) (by rintro _ ⟨⟩; exact Nat.le_of_ble_eq_true rfl) ?_)
              · as_aux_lemma => kernel_rfl
              rintro ⟨⟩
              have hr53 := reqLine_len (⟨z, 0, 0, 0, 0, 0⟩ : Req)
              refine RUN0 1 [3, 4, 5, 6, 7] [(0, .v (.string (bs line))), (2, .p 0 0), (7, .p 1 0), (76, .v (.string (bs (reqLine (⟨z, 0, 0, 0, 0, 0⟩ : Req))))), (77, .v (.string (bs line)))] ?_ rfl ?_
              · as_aux_lemma => kernel_rfl
              refine OPC (RUNV (.binOp .neq 9 (.tmp 76) (.tmp 77) 9) 78 4 ?_ (Nat.le_of_ble_eq_true rfl) (.bool (!((reqLine (⟨z, 0, 0, 0, 0, 0⟩ : Req)) == line))) (runs_sneq (a := reqLine (⟨z, 0, 0, 0, 0, 0⟩ : Req)) (b := line) ?_ ?_) ?_)
              · as_aux_lemma => kernel_rfl
              · as_aux_lemma => kernel_rfl
              · as_aux_lemma => kernel_rfl
              refine RUN0 1 [5, 6, 7] [(0, .v (.string (bs line))), (2, .p 0 0), (7, .p 1 0), (79, B (!((reqLine (⟨z, 0, 0, 0, 0, 0⟩ : Req)) == line)))] ?_ rfl ?_
              · as_aux_lemma => kernel_rfl
              refine SPLIT (d := 79) (!((reqLine (⟨z, 0, 0, 0, 0, 0⟩ : Req)) == line)) ?_ (fun bh54 => ?_) (fun bh54 => ?_)
              · as_aux_lemma => kernel_rfl
              · -- !((reqLine (⟨z, 0, 0, 0, 0, 0⟩ : Req)) == line) = true
                have h54 := bh54
                have h54 := notT h54
                have h54 := ne_of_beq_false h54
                refine RUN0 3 [] [(2, .p 0 0), (7, .p 1 0), (82, B true)] ?_ rfl ?_
                · as_aux_lemma => kernel_rfl
                refine ENDOPS (NEXT (IFT ?_ ?_))
                · as_aux_lemma => kernel_rfl
                refine SEQ (REGION [0, 1, 2] rfl (RUN0 3 [] [(2, .p 0 0), (3, B false)] ?_ rfl ?_))
                · as_aux_lemma => kernel_rfl
                refine ENDOPS (NEXT (RET (PASS trivial (FIN (.tuple #[.agg #[vi 0, vi 0, vi 0, vi 0, vi 0, vi 0], .bool false]) ?_ () ?_ [] ?_))))
                · as_aux_lemma => kernel_rfl
                · (have hv9 : kindGo w0 7 1 0 = z := hv; have hlq : ((readArgs ((parts line 32).drop 1)).getD []).length = l9.length := (by rw [hgd]); have hz := readS_of (line := line) (l := l9) (w := w0) (q := (⟨z, 0, 0, 0, 0, 0⟩ : Req)) (by omega) hl9 hw0 (by first | (rw [sReq, if_pos (by omega), hv9]; done) | (rw [sReq, if_neg (by omega), if_pos (by omega), hv9]; done) | (rw [sReq, if_neg (by omega), if_neg (by omega), if_pos (by omega), hv9]; done) | (rw [sReq, if_neg (by omega), if_neg (by omega), if_neg (by omega), hv9]; done)); simp only [RV]; rw [hz]; simp only [optReq]; first | (rw [if_pos ⟨by assumption, by assumption⟩]; rfl) | (rw [if_neg (fun e => (by first | exact absurd e.1 (by assumption) | exact absurd (by assumption) e.2))]; rfl))
                · rfl
              · -- !((reqLine (⟨z, 0, 0, 0, 0, 0⟩ : Req)) == line) = false
                have h54 := bh54
                have h54 := notF h54
                have h54 := eq_of_beq h54
                refine RUN0 1 [6, 7] [(2, .p 0 0), (7, .p 1 0), (79, B false), (80, .v (.string (bs line)))] ?_ rfl ?_
                · as_aux_lemma => kernel_rfl
                refine OPC (RUNV (.binOp .eql 9 (.tmp 80) (.const (.string (bs ([])))) 9) 81 4 ?_ (Nat.le_of_ble_eq_true rfl) (.bool (line == ([]))) (runs_seql (a := line) (b := []) ?_ ?_) ?_)
                · as_aux_lemma => kernel_rfl
                · as_aux_lemma => kernel_rfl
                · as_aux_lemma => kernel_rfl
                refine RUN0 1 [] [(2, .p 0 0), (7, .p 1 0), (82, B (line == ([])))] ?_ rfl ?_
                · as_aux_lemma => kernel_rfl
                refine ENDOPS (NEXT (IF (line == ([])) ?_ (fun bh55 => ?_) (fun bh55 => ?_)))
                · as_aux_lemma => kernel_rfl
                · -- line == ([]) = true
                  have h55 := bh55
                  have h55 := eq_of_beq h55
                  refine SEQ (REGION [0, 1, 2] rfl (RUN0 3 [] [(2, .p 0 0), (3, B false)] ?_ rfl ?_))
                  · as_aux_lemma => kernel_rfl
                  refine ENDOPS (NEXT (RET (PASS trivial (FIN (.tuple #[.agg #[vi 0, vi 0, vi 0, vi 0, vi 0, vi 0], .bool false]) ?_ () ?_ [] ?_))))
                  · as_aux_lemma => kernel_rfl
                  · (have hv9 : kindGo w0 7 1 0 = z := hv; have hlq : ((readArgs ((parts line 32).drop 1)).getD []).length = l9.length := (by rw [hgd]); have hz := readS_of (line := line) (l := l9) (w := w0) (q := (⟨z, 0, 0, 0, 0, 0⟩ : Req)) (by omega) hl9 hw0 (by first | (rw [sReq, if_pos (by omega), hv9]; done) | (rw [sReq, if_neg (by omega), if_pos (by omega), hv9]; done) | (rw [sReq, if_neg (by omega), if_neg (by omega), if_pos (by omega), hv9]; done) | (rw [sReq, if_neg (by omega), if_neg (by omega), if_neg (by omega), hv9]; done)); simp only [RV]; rw [hz]; simp only [optReq]; first | (rw [if_pos ⟨by assumption, by assumption⟩]; rfl) | (rw [if_neg (fun e => (by first | exact absurd e.1 (by assumption) | exact absurd (by assumption) e.2))]; rfl))
                  · rfl
                · -- line == ([]) = false
                  have h55 := bh55
                  have h55 := ne_of_beq_false h55
                  refine SKIP (NEXT (SEQ (REGION [0, 1, 2] rfl (RUN 3 [] [(2, .p 0 0), (3, B true)] [(47, [vi z, vi 0, vi 0, vi 0, vi 0, vi 0]), (47, [vi z, vi 0, vi 0, vi 0, vi 0, vi 0])] ?_ rfl ?_))))
                  · as_aux_lemma => kernel_rfl
                  refine ENDOPS (NEXT (RET (FIN (.tuple #[.agg #[vi z, vi 0, vi 0, vi 0, vi 0, vi 0], .bool true]) ?_ () ?_ [] ?_)))
                  · as_aux_lemma => kernel_rfl
                  · (have hv9 : kindGo w0 7 1 0 = z := hv; have hlq : ((readArgs ((parts line 32).drop 1)).getD []).length = l9.length := (by rw [hgd]); have hz := readS_of (line := line) (l := l9) (w := w0) (q := (⟨z, 0, 0, 0, 0, 0⟩ : Req)) (by omega) hl9 hw0 (by first | (rw [sReq, if_pos (by omega), hv9]; done) | (rw [sReq, if_neg (by omega), if_pos (by omega), hv9]; done) | (rw [sReq, if_neg (by omega), if_neg (by omega), if_pos (by omega), hv9]; done) | (rw [sReq, if_neg (by omega), if_neg (by omega), if_neg (by omega), hv9]; done)); simp only [RV]; rw [hz]; simp only [optReq]; first | (rw [if_pos ⟨by assumption, by assumption⟩]; rfl) | (rw [if_neg (fun e => (by first | exact absurd e.1 (by assumption) | exact absurd (by assumption) e.2))]; rfl))
                  · rfl

theorem exReadReq_c (W : World) (line : List UInt8) (htab : Tab Tryd.prog W) (hmx : MaxL Tryd.prog W) : Spec Tryd.prog W [] 6 #[.string (bs line)] (RV (.bool true)) := by
  refine ENTER0 (N := 29) (vs := [.string (bs line)]) Tryd.func6 rfl rfl (Nat.le_of_ble_eq_true rfl) ?_
  refine SEQ (REGION [0] rfl (RUN0 1 [] [(0, .v (.string (bs line)))] ?_ rfl ?_))
  · as_aux_lemma => kernel_rfl
  refine ENDOPS (NEXT (SEQ (SEQ (REGION [0, 1, 2] rfl (RUN0 3 [] [(0, .v (.string (bs line))), (9, B (decide ((line.length : Int) > 1048576)))] ?_ rfl ?_)))))
  · as_aux_lemma => kernel_rfl
  refine ENDOPS (NEXT (IF (decide ((line.length : Int) > 1048576)) ?_ (fun bh1 => ?_) (fun bh1 => ?_)))
  · as_aux_lemma => kernel_rfl
  · -- decide ((line.length : Int) > 1048576) = true
    have h1 := bh1
    have h1 := of_decide_eq_true h1
    refine SEQ (REGION [0] rfl (RUN0 1 [] [(2, B true)] ?_ rfl ?_))
    · as_aux_lemma => kernel_rfl
    refine ENDOPS (NEXT (RET (PASS trivial (FIN (.bool true) ?_ () ?_ [] ?_))))
    · as_aux_lemma => kernel_rfl
    · simp_all [RV, read_eq, eqReq_refl]
    · rfl
  · -- decide ((line.length : Int) > 1048576) = false
    have h1 := bh1
    have h1 := of_decide_eq_false h1
    refine SKIP (NEXT (SEQ (REGION [0, 1, 2, 3, 4, 5, 6, 7] rfl (RUN0 1 [1, 2, 3, 4, 5, 6, 7] [(0, .v (.string (bs line))), (11, .v (.string (bs line)))] ?_ rfl ?_))))
    · as_aux_lemma => kernel_rfl
    refine OPC (CALL 23 #[.string (bs line)] (some 12) ?_ [] [] _ rfl (RV (.tuple #[.agg #[vi ((optReq (readS line)).kind), vi ((optReq (readS line)).id), vi ((optReq (readS line)).cabin), vi ((optReq (readS line)).from'), vi ((optReq (readS line)).size), vi ((optReq (readS line)).tier)], .bool ((readS line).isSome)])) (fun w hw => sReadReq_c w line (by first | assumption | omega)) (by rintro _ ⟨⟩; exact Nat.le_of_ble_eq_true rfl) ?_)
    · as_aux_lemma => kernel_rfl
    rintro ⟨⟩
    refine RUN 6 [] [(0, .v (.string (bs line))), (3, .p 0 0), (4, B ((readS line).isSome))] [(47, [vi ((optReq (readS line)).kind), vi ((optReq (readS line)).id), vi ((optReq (readS line)).cabin), vi ((optReq (readS line)).from'), vi ((optReq (readS line)).size), vi ((optReq (readS line)).tier)])] ?_ rfl ?_
    · as_aux_lemma => kernel_rfl
    refine ENDOPS (NEXT (SEQ (REGION [0, 1, 2, 3, 4, 5, 6, 7] rfl (RUN0 1 [1, 2, 3, 4, 5, 6, 7] [(3, .p 0 0), (4, B ((readS line).isSome)), (16, .v (.string (bs line)))] ?_ rfl ?_))))
    · as_aux_lemma => kernel_rfl
    refine OPC (CALL 24 #[.string (bs line)] (some 17) ?_ [] [] _ rfl (RV (.tuple #[.agg #[vi ((optReq (readI line)).kind), vi ((optReq (readI line)).id), vi ((optReq (readI line)).cabin), vi ((optReq (readI line)).from'), vi ((optReq (readI line)).size), vi ((optReq (readI line)).tier)], .bool ((readI line).isSome)])) (fun w hw => iReadReq_c w line (by first | assumption | omega) (htab.fr hw.fr) (hmx.fr hw.fr)) (by rintro _ ⟨⟩; exact Nat.le_of_ble_eq_true rfl) ?_)
    · as_aux_lemma => kernel_rfl
    rintro ⟨⟩
    refine RUN 6 [] [(3, .p 0 0), (4, B ((readS line).isSome)), (5, .p 1 0), (6, B ((readI line).isSome))] [(47, [vi ((optReq (readS line)).kind), vi ((optReq (readS line)).id), vi ((optReq (readS line)).cabin), vi ((optReq (readS line)).from'), vi ((optReq (readS line)).size), vi ((optReq (readS line)).tier)]), (47, [vi ((optReq (readI line)).kind), vi ((optReq (readI line)).id), vi ((optReq (readI line)).cabin), vi ((optReq (readI line)).from'), vi ((optReq (readI line)).size), vi ((optReq (readI line)).tier)])] ?_ rfl ?_
    · as_aux_lemma => kernel_rfl
    refine ENDOPS (NEXT (SEQ (SEQ (REGION [0, 1, 2, 3, 4, 5, 6, 7, 8] rfl (RUN0 2 [2, 3, 4, 5, 6, 7, 8] [(4, B ((readS line).isSome)), (6, B ((readI line).isSome)), (20, .v (.agg #[vi ((optReq (readI line)).kind), vi ((optReq (readI line)).id), vi ((optReq (readI line)).cabin), vi ((optReq (readI line)).from'), vi ((optReq (readI line)).size), vi ((optReq (readI line)).tier)])), (21, .v (.agg #[vi ((optReq (readS line)).kind), vi ((optReq (readS line)).id), vi ((optReq (readS line)).cabin), vi ((optReq (readS line)).from'), vi ((optReq (readS line)).size), vi ((optReq (readS line)).tier)]))] ?_ rfl ?_)))))
    · as_aux_lemma => kernel_rfl
    refine OPC (CALL 25 #[.agg #[vi ((optReq (readI line)).kind), vi ((optReq (readI line)).id), vi ((optReq (readI line)).cabin), vi ((optReq (readI line)).from'), vi ((optReq (readI line)).size), vi ((optReq (readI line)).tier)], .agg #[vi ((optReq (readS line)).kind), vi ((optReq (readS line)).id), vi ((optReq (readS line)).cabin), vi ((optReq (readS line)).from'), vi ((optReq (readS line)).size), vi ((optReq (readS line)).tier)]] (some 22) ?_ [] [] _ rfl (RV (.bool (eqReq (optReq (readI line)) (optReq (readS line))))) (fun w hw => eqReq_c w (optReq (readI line)) (optReq (readS line))) (by rintro _ ⟨⟩; exact Nat.le_of_ble_eq_true rfl) ?_)
    · as_aux_lemma => kernel_rfl
    rintro ⟨⟩
    refine RUN0 2 [5, 6, 7, 8] [(4, B ((readS line).isSome)), (6, B ((readI line).isSome)), (24, B (!(eqReq (optReq (readI line)) (optReq (readS line)))))] ?_ rfl ?_
    · as_aux_lemma => kernel_rfl
    refine SPLIT (d := 24) (!(eqReq (optReq (readI line)) (optReq (readS line)))) ?_ (fun bh2 => ?_) (fun bh2 => ?_)
    · as_aux_lemma => kernel_rfl
    · -- !(eqReq (optReq (readI line)) (optReq (readS line))) = true
      have h2 := bh2
      have h2 := notT h2
      refine RUN0 4 [] [(28, B true)] ?_ rfl ?_
      · as_aux_lemma => kernel_rfl
      refine ENDOPS (NEXT (IFT ?_ ?_))
      · as_aux_lemma => kernel_rfl
      refine SEQ (REGION [0] rfl (RUN0 1 [] [(2, B false)] ?_ rfl ?_))
      · as_aux_lemma => kernel_rfl
      refine ENDOPS (NEXT (RET (PASS trivial (FIN (.bool false) ?_ () ?_ [] ?_))))
      · as_aux_lemma => kernel_rfl
      · simp_all [RV, read_eq, eqReq_refl]
      · rfl
    · -- !(eqReq (optReq (readI line)) (optReq (readS line))) = false
      have h2 := bh2
      have h2 := notF h2
      refine RUN0 4 [] [(28, B (!(((readI line).isSome) == ((readS line).isSome))))] ?_ rfl ?_
      · as_aux_lemma => kernel_rfl
      refine ENDOPS (NEXT (IF (!(((readI line).isSome) == ((readS line).isSome))) ?_ (fun bh3 => ?_) (fun bh3 => ?_)))
      · as_aux_lemma => kernel_rfl
      · -- !(((readI line).isSome) == ((readS line).isSome)) = true
        have h3 := bh3
        have h3 := notT h3
        have h3 := ne_of_beq_false h3
        refine SEQ (REGION [0] rfl (RUN0 1 [] [(2, B false)] ?_ rfl ?_))
        · as_aux_lemma => kernel_rfl
        refine ENDOPS (NEXT (RET (PASS trivial (FIN (.bool false) ?_ () ?_ [] ?_))))
        · as_aux_lemma => kernel_rfl
        · simp_all [RV, read_eq, eqReq_refl]
        · rfl
      · -- !(((readI line).isSome) == ((readS line).isSome)) = false
        have h3 := bh3
        have h3 := notF h3
        have h3 := eq_of_beq h3
        refine SKIP (NEXT (SEQ (REGION [0] rfl (RUN0 1 [] [(2, B true)] ?_ rfl ?_))))
        · as_aux_lemma => kernel_rfl
        refine ENDOPS (NEXT (RET (FIN (.bool true) ?_ () ?_ [] ?_)))
        · as_aux_lemma => kernel_rfl
        · simp_all [RV, read_eq, eqReq_refl]
        · rfl

end SX
end Go.Proofs.YtpdijcbgdalphaaDoor
