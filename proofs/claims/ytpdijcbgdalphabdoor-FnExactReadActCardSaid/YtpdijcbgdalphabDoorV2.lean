/- Walks, printed by program. -/
import Derived.Test.YtpdijcbgdalphabDoorV1
namespace Go.Proofs.YtpdijcbgdalphabDoor
namespace SX
open Go Go.RowKit
set_option linter.unusedVariables false
set_option linter.unusedSimpArgs false
set_option maxRecDepth 10000
theorem iReadReq_c (W : World) (line : List UInt8) (hl : line.length ≤ 1048576) (htab : Tab Tryd.prog W) (hmx : MaxL Tryd.prog W) : Spec Tryd.prog W [] 14 #[.string (bs line)] (RV (.tuple #[.agg #[vi ((optReq (readI line)).kind), vi ((optReq (readI line)).id), vi ((optReq (readI line)).cabin), vi ((optReq (readI line)).from'), vi ((optReq (readI line)).size), vi ((optReq (readI line)).tier)], .bool ((readI line).isSome)])) := by
  refine ENTER0 (N := 109) (vs := [.string (bs line)]) Tryd.func14 rfl rfl (Nat.le_of_ble_eq_true rfl) ?_
  refine SEQ (REGION [0, 1] rfl (RUN 2 [] [(0, .v (.string (bs line))), (2, .p 0 0)] [(23, [vi 0, vi 0, vi 0, vi 0, vi 0, vi 0])] ?_ rfl ?_))
  · as_aux_lemma => kernel_rfl
  refine ENDOPS (NEXT (SEQ (REGION [0, 1, 2] rfl (RUN0 1 [1, 2] [(0, .v (.string (bs line))), (2, .p 0 0), (11, .v (.string (bs line)))] ?_ rfl ?_))))
  · as_aux_lemma => kernel_rfl
  refine OPC (CALL 16 #[.string (bs line), .int .u8 32] (some 12) ?_ [] [] _ rfl (⟨HH, fun p => .slice p.1 ((parts line 32).length) p.2, fun p => [slA 9 strL (.slice p.1 (parts line 32).length p.2) (parts line 32)]⟩) (fun w hw => iParts_c w line 32 (by first | assumption | omega) (hmx.fr hw.fr)) (by rintro _ ⟨⟩; exact Nat.le_of_ble_eq_true rfl) ?_)
  · as_aux_lemma => kernel_rfl
  rintro ⟨a1, c2⟩
  have hr3 := parts_len line 32
  refine RUN0 1 [] [(0, .v (.string (bs line))), (2, .p 0 0), (4, .v (.slice a1 ((parts line 32).length) c2))] ?_ rfl ?_
  · as_aux_lemma => kernel_rfl
  refine ENDOPS (NEXT (SEQ (SEQ (REGION [0, 1, 2] rfl (RUN0 3 [] [(0, .v (.string (bs line))), (2, .p 0 0), (4, .v (.slice a1 ((parts line 32).length) c2)), (15, B (decide ((((parts line 32).length : Nat) : Int) > 6)))] ?_ rfl ?_)))))
  · as_aux_lemma => kernel_rfl
  refine ENDOPS (NEXT (IF (decide ((((parts line 32).length : Nat) : Int) > 6)) ?_ (fun bh4 => ?_) (fun bh4 => ?_)))
  · as_aux_lemma => kernel_rfl
  · -- decide ((((parts line 32).length : Nat) : Int) > 6) = true
    have h4 := bh4
    have h4 := of_decide_eq_true h4
    refine SEQ (REGION [0, 1, 2] rfl (RUN0 3 [] [(2, .p 0 0), (3, B false)] ?_ rfl ?_))
    · as_aux_lemma => kernel_rfl
    refine ENDOPS (NEXT (RET (PASS trivial (FIN (.tuple #[.agg #[vi 0, vi 0, vi 0, vi 0, vi 0, vi 0], .bool false]) ?_ () ?_ [] ?_))))
    · as_aux_lemma => kernel_rfl
    · (first | (rw [readI_many (by omega)]; rfl) | (rw [readI_bad (hv1.trans (by rw [readArgs_bad (by assumption) (by assumption)]; rfl))]; rfl))
    · rfl
  · -- decide ((((parts line 32).length : Nat) : Int) > 6) = false
    have h4 := bh4
    have h4 := of_decide_eq_false h4
    refine SKIP (NEXT (SEQ (REGION [0, 1] rfl (OPC (MAKE 24 (.const (vi 5)) (.const (vi 5)) 17 24 ?_ (Nat.le_of_ble_eq_true rfl) 5 ?_ ?_ 3 ?_ (fun z => [.int .i64 z]) (fun z => ⟨rfl, by simp [isCell]⟩) 0 (vi 0) 8 rfl ?_ (by decide) (by omega) (by simp only [maxLen]; omega) (fun a5 ha6 => ?_))))))
    · as_aux_lemma => kernel_rfl
    · as_aux_lemma => kernel_rfl
    · as_aux_lemma => kernel_rfl
    · as_aux_lemma => kernel_rfl
    · as_aux_lemma => kernel_rfl
    refine RUN0 1 [] [(0, .v (.string (bs line))), (2, .p 0 0), (4, .v (.slice a1 ((parts line 32).length) c2)), (5, .v (.slice a5 5 5))] ?_ rfl ?_
    · as_aux_lemma => kernel_rfl
    refine ENDOPS (NEXT (SEQ (SEQ (REGION [0, 1, 2, 3] rfl (RUN0 1 [1, 2, 3] [(0, .v (.string (bs line))), (2, .p 0 0), (4, .v (.slice a1 ((parts line 32).length) c2)), (5, .v (.slice a5 5 5)), (18, .v (.slice a1 ((parts line 32).length) c2))] ?_ rfl ?_)))))
    · as_aux_lemma => kernel_rfl
    refine FACT (((parts line 32).length) ≤ c2) (fun w hw => SlO.capE (hw.own 0 rfl)) (fun hcap7 => ?_)
    refine FACT (((parts line 32).length) = (parts line 32).length) (fun w hw => (SlO.lenE (hw.own 0 rfl)).1) (fun hln8 => ?_)
    refine OPC (CUTL 32 (.tmp 18) (.const (vi 1)) 19 32 ?_ (Nat.le_of_ble_eq_true rfl) a1 ((parts line 32).length) c2 .i64 1 ?_ ?_ 9 strL (parts line 32) ?_ ?_ (by omega) (by first | omega | (simp only [List.length_append, List.length_cons, List.length_nil, List.length_take, List.length_drop] at *; omega)) hln8 hcap7 (fun a9 hsh10 => ?_))
    · as_aux_lemma => kernel_rfl
    · as_aux_lemma => kernel_rfl
    · as_aux_lemma => kernel_rfl
    · as_aux_lemma => kernel_rfl
    · as_aux_lemma => kernel_rfl
    have hsh10 : ∀ w, Rd strL w a1 (parts line 32) → Rd strL w a9 ((parts line 32).drop 1) := hsh10
    have hln11 : ((parts line 32).drop 1).length = ((parts line 32).length) - 1 := by first | (simp; done) | (simp; omega)
    refine CAST (d := 19) (.slice a9 (((parts line 32).length) - 1) (c2 - 1)) (.slice a9 (((parts line 32).drop 1).length) (c2 - 1)) ?_ (by rw [hln11]) ?_
    · as_aux_lemma => kernel_rfl
    refine RUN0 2 [] [(0, .v (.string (bs line))), (2, .p 0 0), (4, .v (.slice a1 ((parts line 32).length) c2)), (5, .v (.slice a5 5 5)), (19, .v (.slice a9 (((parts line 32).drop 1).length) (c2 - 1))), (20, I ((((parts line 32).drop 1).length : Nat) : Int)), (21, I 0)] ?_ rfl ?_
    · as_aux_lemma => kernel_rfl
    refine ENDOPS (NEXT (BLOCK (LOOP (ι := Nat × (List (List UInt8)) × (List Int) × (List Int)) (fun j => [(0, .v (.string (bs line))), (2, .p 0 0), (4, .v (.slice a1 ((parts line 32).length) c2)), (5, .v (.slice a5 5 5)), (19, .v (.slice a9 (((parts line 32).drop 1).length) (c2 - 1))), (20, I ((((parts line 32).drop 1).length : Nat) : Int)), (21, I (j.1 : Int))]) (fun j => [(23, [vi 0, vi 0, vi 0, vi 0, vi 0, vi 0])]) (fun j => [slA 9 strL (.slice a1 (parts line 32).length c2) (parts line 32), slA 3 intL (.slice a5 5 5) j.2.2.2]) (fun j => j.1 + j.2.1.length = ((parts line 32).drop 1).length ∧ ((parts line 32).drop 1).drop j.1 = j.2.1 ∧ j.2.2.2 = j.2.2.1 ++ List.replicate (5 - j.1) 0 ∧ readArgs ((parts line 32).drop 1) = (readArgs j.2.1).map (j.2.2.1 ++ ·) ∧ j.2.2.1.length = j.1) (fun j => j.2.1.length) (0, ((parts line 32).drop 1), [], List.replicate 5 0) [0, 2, 4, 5, 19, 20, 21] ⟨by simp, rfl, rfl, by simp, rfl⟩ ?_ rfl rfl ?_)))
    · as_aux_lemma => kernel_rfl
    rintro ⟨k, ys, done, ar⟩ ⟨hk, hd, hv0, hv1, hv2⟩
    dsimp only at hk hd hv0 hv1 hv2
    refine SEQ (REGION [0] rfl (RUN0 1 [] [(0, .v (.string (bs line))), (2, .p 0 0), (4, .v (.slice a1 ((parts line 32).length) c2)), (5, .v (.slice a5 5 5)), (19, .v (.slice a9 (((parts line 32).drop 1).length) (c2 - 1))), (20, I ((((parts line 32).drop 1).length : Nat) : Int)), (21, I (k : Int)), (22, B (decide ((k : Int) < ((((parts line 32).drop 1).length : Nat) : Int))))] ?_ rfl ?_))
    · as_aux_lemma => kernel_rfl
    refine ENDOPS (NEXT (SEQ (IF (decide ((k : Int) < ((((parts line 32).drop 1).length : Nat) : Int))) ?_ (fun bh12 => ?_) (fun bh12 => ?_))))
    · as_aux_lemma => kernel_rfl
    · -- decide ((k : Int) < ((((parts line 32).drop 1).length : Nat) : Int)) = true
      have h12 := bh12
      have h12 := of_decide_eq_true h12
      obtain ⟨y13, ys14, rfl, hx_y13, hd_y13, hl_y13⟩ := drop_cons hd hk (by omega)
      refine SKIP (NEXT (SEQ (BLOCK (SEQ (REGION [0, 1, 2, 3, 4] rfl (RUN0 1 [1, 2, 3, 4] [(0, .v (.string (bs line))), (2, .p 0 0), (4, .v (.slice a1 ((parts line 32).length) c2)), (5, .v (.slice a5 5 5)), (19, .v (.slice a9 (((parts line 32).drop 1).length) (c2 - 1))), (20, I ((((parts line 32).drop 1).length : Nat) : Int)), (21, I (k : Int)), (23, I (k : Int))] ?_ rfl ?_))))))
      · as_aux_lemma => kernel_rfl
      refine FACT (a9.isSome = true) (fun w hw => Rd.some (hsh10 _ (Rd.own (hw.own 0 rfl))) (by omega)) (fun hs15 => ?_)
      refine OPC (INDEX 32 (.tmp 19) (.tmp 21) 24 0 ?_ (Nat.le_of_ble_eq_true rfl) a9 (((parts line 32).drop 1).length) (c2 - 1) .i64 (k : Int) 9 1 ?_ ?_ ?_ ?_ hs15 (by omega) (by omega) ?_)
      · as_aux_lemma => kernel_rfl
      · as_aux_lemma => kernel_rfl
      · as_aux_lemma => kernel_rfl
      · as_aux_lemma => kernel_rfl
      · as_aux_lemma => kernel_rfl
      refine OPC (LOADE 9 (.tmp 24) 25 9 ?_ (Nat.le_of_ble_eq_true rfl) a9 (k * 1) 0 [.string (bs y13)] (.string (bs y13)) ?_ (fun w hw => (hsh10 _ (Rd.own (hw.own 0 rfl))).flat hx_y13) ?_ ?_)
      · as_aux_lemma => kernel_rfl
      · as_aux_lemma => kernel_rfl
      · as_aux_lemma => kernel_rfl
      refine RUN0 2 [] [(0, .v (.string (bs line))), (2, .p 0 0), (4, .v (.slice a1 ((parts line 32).length) c2)), (5, .v (.slice a5 5 5)), (6, I (k : Int)), (7, .v (.string (bs y13))), (19, .v (.slice a9 (((parts line 32).drop 1).length) (c2 - 1))), (20, I ((((parts line 32).drop 1).length : Nat) : Int)), (21, I (k : Int))] ?_ rfl ?_
      · as_aux_lemma => kernel_rfl
      refine ENDOPS (NEXT (SEQ (REGION [0, 1, 2, 3, 4, 5, 6] rfl (RUN0 1 [1, 2, 3, 4, 5, 6] [(0, .v (.string (bs line))), (2, .p 0 0), (4, .v (.slice a1 ((parts line 32).length) c2)), (5, .v (.slice a5 5 5)), (6, I (k : Int)), (7, .v (.string (bs y13))), (19, .v (.slice a9 (((parts line 32).drop 1).length) (c2 - 1))), (20, I ((((parts line 32).drop 1).length : Nat) : Int)), (21, I (k : Int)), (27, .v (.string (bs y13)))] ?_ rfl ?_))))
      · as_aux_lemma => kernel_rfl
      refine OPC (CALL 15 #[.string (bs y13)] (some 28) ?_ [] [] _ rfl (RV (.tuple #[vi (((number y13).getD 0 : Nat) : Int), .bool ((number y13).isSome)])) (fun w hw => iNumber_c w y13 (htab.fr hw.fr)) (by rintro _ ⟨⟩; exact Nat.le_of_ble_eq_true rfl) ?_)
      · as_aux_lemma => kernel_rfl
      rintro ⟨⟩
      refine RUN0 5 [] [(0, .v (.string (bs line))), (2, .p 0 0), (4, .v (.slice a1 ((parts line 32).length) c2)), (5, .v (.slice a5 5 5)), (6, I (k : Int)), (7, .v (.string (bs y13))), (8, I (((number y13).getD 0 : Nat) : Int)), (9, B ((number y13).isSome)), (19, .v (.slice a9 (((parts line 32).drop 1).length) (c2 - 1))), (20, I ((((parts line 32).drop 1).length : Nat) : Int)), (21, I (k : Int))] ?_ rfl ?_
      · as_aux_lemma => kernel_rfl
      refine ENDOPS (NEXT (SEQ (SEQ (REGION [0, 1] rfl (RUN0 1 [1] [(0, .v (.string (bs line))), (2, .p 0 0), (4, .v (.slice a1 ((parts line 32).length) c2)), (5, .v (.slice a5 5 5)), (6, I (k : Int)), (8, I (((number y13).getD 0 : Nat) : Int)), (9, B ((number y13).isSome)), (19, .v (.slice a9 (((parts line 32).drop 1).length) (c2 - 1))), (20, I ((((parts line 32).drop 1).length : Nat) : Int)), (21, I (k : Int)), (31, .v (.string (bs y13)))] ?_ rfl ?_)))))
      · as_aux_lemma => kernel_rfl
      refine OPC (RUNV (.binOp .eql 9 (.tmp 31) (.const (.string (bs ([45])))) 9) 32 4 ?_ (Nat.le_of_ble_eq_true rfl) (.bool (y13 == ([45]))) (runs_seql (a := y13) (b := [45]) ?_ ?_) ?_)
      · as_aux_lemma => kernel_rfl
      · as_aux_lemma => kernel_rfl
      · as_aux_lemma => kernel_rfl
      refine ENDOPS (NEXT (IF (y13 == ([45])) ?_ (fun bh16 => ?_) (fun bh16 => ?_)))
      · as_aux_lemma => kernel_rfl
      · -- y13 == ([45]) = true
        have h16 := bh16
        have h16 := eq_of_beq h16
        refine REGION [0, 1] rfl (RUN0 2 [] [(0, .v (.string (bs line))), (2, .p 0 0), (4, .v (.slice a1 ((parts line 32).length) c2)), (5, .v (.slice a5 5 5)), (6, I (k : Int)), (8, I (-1)), (9, B true), (19, .v (.slice a9 (((parts line 32).drop 1).length) (c2 - 1))), (20, I ((((parts line 32).drop 1).length : Nat) : Int)), (21, I (k : Int))] ?_ rfl ?_)
        · as_aux_lemma => kernel_rfl
        refine ENDOPS (NEXT (SEQ (SEQ (REGION [0, 1] rfl (RUN0 2 [] [(0, .v (.string (bs line))), (2, .p 0 0), (4, .v (.slice a1 ((parts line 32).length) c2)), (5, .v (.slice a5 5 5)), (6, I (k : Int)), (8, I (-1)), (19, .v (.slice a9 (((parts line 32).drop 1).length) (c2 - 1))), (20, I ((((parts line 32).drop 1).length : Nat) : Int)), (21, I (k : Int)), (34, B false)] ?_ rfl ?_)))))
        · as_aux_lemma => kernel_rfl
        refine ENDOPS (NEXT (IFF ?_ ?_))
        · as_aux_lemma => kernel_rfl
        refine SKIP (NEXT (REGION [0, 1, 2, 3, 4] rfl (RUN0 3 [3, 4] [(0, .v (.string (bs line))), (2, .p 0 0), (4, .v (.slice a1 ((parts line 32).length) c2)), (5, .v (.slice a5 5 5)), (19, .v (.slice a9 (((parts line 32).drop 1).length) (c2 - 1))), (20, I ((((parts line 32).drop 1).length : Nat) : Int)), (21, I (k : Int)), (36, .v (.slice a5 5 5)), (37, I (k : Int)), (38, I (-1))] ?_ rfl ?_)))
        · as_aux_lemma => kernel_rfl
        refine FACT (5 = ar.length) (fun w hw => (SlO.lenE (hw.own 1 rfl)).1) (fun hln17 => ?_)
        obtain ⟨x18, hx19⟩ : ∃ y, ar[k]? = some y := ⟨_, List.getElem?_eq_getElem (by omega)⟩
        refine OPC (INDEX 24 (.tmp 36) (.tmp 37) 39 0 ?_ (Nat.le_of_ble_eq_true rfl) a5 5 5 .i64 (k : Int) 3 1 ?_ ?_ ?_ ?_ ha6 (by omega) (by omega) ?_)
        · as_aux_lemma => kernel_rfl
        · as_aux_lemma => kernel_rfl
        · as_aux_lemma => kernel_rfl
        · as_aux_lemma => kernel_rfl
        · as_aux_lemma => kernel_rfl
        refine OPC (STOREF 3 (.tmp 39) (.tmp 38) 0 ?_ 1 _ 3 a5 5 5 k 0 ar rfl x18 (-1) hx19 (vi (-1)) ?_ ?_ ?_ ?_)
        · as_aux_lemma => kernel_rfl
        · as_aux_lemma => kernel_rfl
        · as_aux_lemma => kernel_rfl
        · as_aux_lemma => kernel_rfl
        refine ENDOPS (OUTN (NEXT (REGION [0, 1] rfl (RUN0 1 [1] [(0, .v (.string (bs line))), (2, .p 0 0), (4, .v (.slice a1 ((parts line 32).length) c2)), (5, .v (.slice a5 5 5)), (19, .v (.slice a9 (((parts line 32).drop 1).length) (c2 - 1))), (20, I ((((parts line 32).drop 1).length : Nat) : Int)), (40, I (wr ((k : Int) + 1)))] ?_ rfl ?_))))
        · as_aux_lemma => kernel_rfl
        refine CAST (d := 40) (vi (wr ((k : Int) + 1))) (vi ((k + 1 : Nat) : Int)) ?_ (vi_cast (by omega) (by omega)) ?_
        · as_aux_lemma => kernel_rfl
        refine RUN0 1 [] [(0, .v (.string (bs line))), (2, .p 0 0), (4, .v (.slice a1 ((parts line 32).length) c2)), (5, .v (.slice a5 5 5)), (19, .v (.slice a9 (((parts line 32).drop 1).length) (c2 - 1))), (20, I ((((parts line 32).drop 1).length : Nat) : Int)), (21, I ((k + 1 : Nat) : Int))] ?_ rfl ?_
        · as_aux_lemma => kernel_rfl
        refine ENDOPS (BACK (k + 1, ys14, done ++ [(-1)], ar.set k (-1)) [0, 2, 4, 5, 19, 20, 21] 1 [0, 0] _ ⟨hl_y13, hd_y13, (by rw [hv0]; exact pad_set hv2 (by omega)), hv1.trans (by first | (rw [readArgs_num (by assumption) (by assumption)]; simp [Option.map_map, Function.comp_def]; done) | (rw [show y13 = [45] by assumption, readArgs_dash]; simp [Option.map_map, Function.comp_def])), (by simp only [List.length_append, List.length_cons, List.length_nil]; omega)⟩ (by simp) ?_ rfl rfl rfl)
        · as_aux_lemma => kernel_rfl
      · -- y13 == ([45]) = false
        have h16 := bh16
        have h16 := ne_of_beq_false h16
        refine SKIP (NEXT (SEQ (SEQ (REGION [0, 1] rfl (RUN0 2 [] [(0, .v (.string (bs line))), (2, .p 0 0), (4, .v (.slice a1 ((parts line 32).length) c2)), (5, .v (.slice a5 5 5)), (6, I (k : Int)), (8, I (((number y13).getD 0 : Nat) : Int)), (19, .v (.slice a9 (((parts line 32).drop 1).length) (c2 - 1))), (20, I ((((parts line 32).drop 1).length : Nat) : Int)), (21, I (k : Int)), (34, B (!((number y13).isSome)))] ?_ rfl ?_)))))
        · as_aux_lemma => kernel_rfl
        refine ENDOPS (NEXT (IF (!((number y13).isSome)) ?_ (fun bh20 => ?_) (fun bh20 => ?_)))
        · as_aux_lemma => kernel_rfl
        · -- !((number y13).isSome) = true
          have h20 := bh20
          have h20 := notT h20
          refine SEQ (REGION [0, 1, 2] rfl (RUN0 3 [] [(2, .p 0 0), (3, B false)] ?_ rfl ?_))
          · as_aux_lemma => kernel_rfl
          refine ENDOPS (NEXT (RET (PASS trivial (OUTR (PASS trivial (PASS trivial (OUTR (PASS trivial (FIN (.tuple #[.agg #[vi 0, vi 0, vi 0, vi 0, vi 0, vi 0], .bool false]) ?_ () ?_ [] ?_)))))))))
          · as_aux_lemma => kernel_rfl
          · (first | (rw [readI_many (by omega)]; rfl) | (rw [readI_bad (hv1.trans (by rw [readArgs_bad (by assumption) (by assumption)]; rfl))]; rfl))
          · rfl
        · -- !((number y13).isSome) = false
          have h20 := bh20
          have h20 := notF h20
          refine SKIP (NEXT (REGION [0, 1, 2, 3, 4] rfl (RUN0 3 [3, 4] [(0, .v (.string (bs line))), (2, .p 0 0), (4, .v (.slice a1 ((parts line 32).length) c2)), (5, .v (.slice a5 5 5)), (19, .v (.slice a9 (((parts line 32).drop 1).length) (c2 - 1))), (20, I ((((parts line 32).drop 1).length : Nat) : Int)), (21, I (k : Int)), (36, .v (.slice a5 5 5)), (37, I (k : Int)), (38, I (((number y13).getD 0 : Nat) : Int))] ?_ rfl ?_)))
          · as_aux_lemma => kernel_rfl
          refine FACT (5 = ar.length) (fun w hw => (SlO.lenE (hw.own 1 rfl)).1) (fun hln21 => ?_)
          obtain ⟨x22, hx23⟩ : ∃ y, ar[k]? = some y := ⟨_, List.getElem?_eq_getElem (by omega)⟩
          refine OPC (INDEX 24 (.tmp 36) (.tmp 37) 39 0 ?_ (Nat.le_of_ble_eq_true rfl) a5 5 5 .i64 (k : Int) 3 1 ?_ ?_ ?_ ?_ ha6 (by omega) (by omega) ?_)
          · as_aux_lemma => kernel_rfl
          · as_aux_lemma => kernel_rfl
          · as_aux_lemma => kernel_rfl
          · as_aux_lemma => kernel_rfl
          · as_aux_lemma => kernel_rfl
          refine OPC (STOREF 3 (.tmp 39) (.tmp 38) 0 ?_ 1 _ 3 a5 5 5 k 0 ar rfl x22 (((number y13).getD 0 : Nat) : Int) hx23 (vi (((number y13).getD 0 : Nat) : Int)) ?_ ?_ ?_ ?_)
          · as_aux_lemma => kernel_rfl
          · as_aux_lemma => kernel_rfl
          · as_aux_lemma => kernel_rfl
          · as_aux_lemma => kernel_rfl
          refine ENDOPS (OUTN (NEXT (REGION [0, 1] rfl (RUN0 1 [1] [(0, .v (.string (bs line))), (2, .p 0 0), (4, .v (.slice a1 ((parts line 32).length) c2)), (5, .v (.slice a5 5 5)), (19, .v (.slice a9 (((parts line 32).drop 1).length) (c2 - 1))), (20, I ((((parts line 32).drop 1).length : Nat) : Int)), (40, I (wr ((k : Int) + 1)))] ?_ rfl ?_))))
          · as_aux_lemma => kernel_rfl
          refine CAST (d := 40) (vi (wr ((k : Int) + 1))) (vi ((k + 1 : Nat) : Int)) ?_ (vi_cast (by omega) (by omega)) ?_
          · as_aux_lemma => kernel_rfl
          refine RUN0 1 [] [(0, .v (.string (bs line))), (2, .p 0 0), (4, .v (.slice a1 ((parts line 32).length) c2)), (5, .v (.slice a5 5 5)), (19, .v (.slice a9 (((parts line 32).drop 1).length) (c2 - 1))), (20, I ((((parts line 32).drop 1).length : Nat) : Int)), (21, I ((k + 1 : Nat) : Int))] ?_ rfl ?_
          · as_aux_lemma => kernel_rfl
          refine ENDOPS (BACK (k + 1, ys14, done ++ [(((number y13).getD 0 : Nat) : Int)], ar.set k (((number y13).getD 0 : Nat) : Int)) [0, 2, 4, 5, 19, 20, 21] 1 [0, 0] _ ⟨hl_y13, hd_y13, (by rw [hv0]; exact pad_set hv2 (by omega)), hv1.trans (by first | (rw [readArgs_num (by assumption) (by assumption)]; simp [Option.map_map, Function.comp_def]; done) | (rw [show y13 = [45] by assumption, readArgs_dash]; simp [Option.map_map, Function.comp_def])), (by simp only [List.length_append, List.length_cons, List.length_nil]; omega)⟩ (by simp) ?_ rfl rfl rfl)
          · as_aux_lemma => kernel_rfl
    · -- decide ((k : Int) < ((((parts line 32).drop 1).length : Nat) : Int)) = false
      have h12 := bh12
      have h12 := of_decide_eq_false h12
      obtain rfl := drop_nil hk (by omega)
      refine EXIT (PASS trivial (PASS trivial (OUT (NEXT (SEQ (REGION [0] rfl (RUN 1 [] [(0, .v (.string (bs line))), (2, .p 0 0), (4, .v (.slice a1 ((parts line 32).length) c2)), (5, .v (.slice a5 5 5)), (10, .p 1 0)] [(23, [vi 0, vi 0, vi 0, vi 0, vi 0, vi 0]), (23, [vi 0, vi 0, vi 0, vi 0, vi 0, vi 0])] ?_ rfl ?_)))))))
      · as_aux_lemma => kernel_rfl
      refine ENDOPS (NEXT (SEQ (SEQ (REGION [0, 1, 2] rfl (RUN0 1 [1, 2] [(0, .v (.string (bs line))), (2, .p 0 0), (5, .v (.slice a5 5 5)), (10, .p 1 0), (41, .v (.slice a1 ((parts line 32).length) c2))] ?_ rfl ?_)))))
      · as_aux_lemma => kernel_rfl
      obtain ⟨x24, hx25⟩ : ∃ y, (parts line 32)[0]? = some y := ⟨_, List.getElem?_eq_getElem (by omega)⟩
      refine FACT (a1.isSome = true) (fun w hw => SlO.isS (hw.own 0 rfl) (by omega)) (fun hs26 => ?_)
      refine OPC (INDEX 32 (.tmp 41) (.const (vi 0)) 42 0 ?_ (Nat.le_of_ble_eq_true rfl) a1 ((parts line 32).length) c2 .i64 0 9 1 ?_ ?_ ?_ ?_ hs26 (by omega) (by omega) ?_)
      · as_aux_lemma => kernel_rfl
      · as_aux_lemma => kernel_rfl
      · as_aux_lemma => kernel_rfl
      · as_aux_lemma => kernel_rfl
      · as_aux_lemma => kernel_rfl
      refine OPC (LOADE 9 (.tmp 42) 43 9 ?_ (Nat.le_of_ble_eq_true rfl) a1 (0 * 1) 0 [.string (bs x24)] (.string (bs x24)) ?_ (fun w hw => (Rd.own (hw.own 0 rfl)).flat hx25) ?_ ?_)
      · as_aux_lemma => kernel_rfl
      · as_aux_lemma => kernel_rfl
      · as_aux_lemma => kernel_rfl
      refine ENDOPS (NEXT (BLOCK (SEQ (REGION [0, 1] rfl (OPC (RUNV (.binOp .eql 9 (.tmp 43) (.const (.string (bs ([106, 111, 105, 110])))) 9) 45 4 ?_ (Nat.le_of_ble_eq_true rfl) (.bool (x24 == ([106, 111, 105, 110]))) (runs_seql (a := x24) (b := [106, 111, 105, 110]) ?_ ?_) ?_))))))
      · as_aux_lemma => kernel_rfl
      · as_aux_lemma => kernel_rfl
      · as_aux_lemma => kernel_rfl
      refine RUN0 1 [] [(0, .v (.string (bs line))), (2, .p 0 0), (5, .v (.slice a5 5 5)), (10, .p 1 0), (43, .v (.string (bs x24))), (44, B (x24 == ([106, 111, 105, 110])))] ?_ rfl ?_
      · as_aux_lemma => kernel_rfl
      refine ENDOPS (NEXT (IF (x24 == ([106, 111, 105, 110])) ?_ (fun bh27 => ?_) (fun bh27 => ?_)))
      · as_aux_lemma => kernel_rfl
      · -- x24 == ([106, 111, 105, 110]) = true
        have h27 := bh27
        have h27 := eq_of_beq h27
        refine REGIONH ?_ 17 rfl [slA 9 strL (.slice a1 (parts line 32).length c2) (parts line 32), slA 3 intL (.slice a5 5 5) ar] ?_
        · as_aux_lemma => kernel_rfl
        refine HPURE 0 [(0, .v (.string (bs line))), (2, .p 0 0), (5, .v (.slice a5 5 5)), (10, .p 1 0), (46, .v (.slice a5 5 5))] ?_ ?_ rfl ?_
        · as_aux_lemma => kernel_rfl
        · as_aux_lemma => kernel_rfl
        refine FACT (5 = ar.length) (fun w hw => (SlO.lenE (hw.own 1 rfl)).1) (fun hln28 => ?_)
        obtain ⟨x29, hx30⟩ : ∃ y, ar[0]? = some y := ⟨_, List.getElem?_eq_getElem (by omega)⟩
        refine HINDEX (i := 1)  24 (.tmp 46) (.const (vi 0)) 47 0 ?_ (Nat.le_of_ble_eq_true rfl) a5 5 5 .i64 0 3 1 ?_ ?_ ?_ ?_ ha6 (by omega) (by omega) ?_ rfl ?_
        · as_aux_lemma => kernel_rfl
        · as_aux_lemma => kernel_rfl
        · as_aux_lemma => kernel_rfl
        · as_aux_lemma => kernel_rfl
        · as_aux_lemma => kernel_rfl
        · as_aux_lemma => kernel_rfl
        refine HLOADE (i := 2)  3 (.tmp 47) 48 3 ?_ (Nat.le_of_ble_eq_true rfl) a5 (0 * 1) 0 [vi x29] (vi x29) ?_ (fun w hw => (Rd.own (hw.own 1 rfl)).flat hx30) ?_ ?_ rfl ?_
        · as_aux_lemma => kernel_rfl
        · as_aux_lemma => kernel_rfl
        · as_aux_lemma => kernel_rfl
        · as_aux_lemma => kernel_rfl
        refine HPURE 3 [(0, .v (.string (bs line))), (2, .p 0 0), (5, .v (.slice a5 5 5)), (10, .p 1 0), (48, I x29), (49, .v (.slice a5 5 5))] ?_ ?_ rfl ?_
        · as_aux_lemma => kernel_rfl
        · as_aux_lemma => kernel_rfl
        refine FACT (5 = ar.length) (fun w hw => (SlO.lenE (hw.own 1 rfl)).1) (fun hln31 => ?_)
        obtain ⟨x32, hx33⟩ : ∃ y, ar[1]? = some y := ⟨_, List.getElem?_eq_getElem (by omega)⟩
        refine HINDEX (i := 4)  24 (.tmp 49) (.const (vi 1)) 50 0 ?_ (Nat.le_of_ble_eq_true rfl) a5 5 5 .i64 1 3 1 ?_ ?_ ?_ ?_ ha6 (by omega) (by omega) ?_ rfl ?_
        · as_aux_lemma => kernel_rfl
        · as_aux_lemma => kernel_rfl
        · as_aux_lemma => kernel_rfl
        · as_aux_lemma => kernel_rfl
        · as_aux_lemma => kernel_rfl
        · as_aux_lemma => kernel_rfl
        refine HLOADE (i := 5)  3 (.tmp 50) 51 3 ?_ (Nat.le_of_ble_eq_true rfl) a5 (1 * 1) 0 [vi x32] (vi x32) ?_ (fun w hw => (Rd.own (hw.own 1 rfl)).flat hx33) ?_ ?_ rfl ?_
        · as_aux_lemma => kernel_rfl
        · as_aux_lemma => kernel_rfl
        · as_aux_lemma => kernel_rfl
        · as_aux_lemma => kernel_rfl
        refine HPURE 6 [(0, .v (.string (bs line))), (2, .p 0 0), (5, .v (.slice a5 5 5)), (10, .p 1 0), (48, I x29), (51, I x32), (52, .v (.slice a5 5 5))] ?_ ?_ rfl ?_
        · as_aux_lemma => kernel_rfl
        · as_aux_lemma => kernel_rfl
        refine FACT (5 = ar.length) (fun w hw => (SlO.lenE (hw.own 1 rfl)).1) (fun hln34 => ?_)
        obtain ⟨x35, hx36⟩ : ∃ y, ar[2]? = some y := ⟨_, List.getElem?_eq_getElem (by omega)⟩
        refine HINDEX (i := 7)  24 (.tmp 52) (.const (vi 2)) 53 0 ?_ (Nat.le_of_ble_eq_true rfl) a5 5 5 .i64 2 3 1 ?_ ?_ ?_ ?_ ha6 (by omega) (by omega) ?_ rfl ?_
        · as_aux_lemma => kernel_rfl
        · as_aux_lemma => kernel_rfl
        · as_aux_lemma => kernel_rfl
        · as_aux_lemma => kernel_rfl
        · as_aux_lemma => kernel_rfl
        · as_aux_lemma => kernel_rfl
        refine HLOADE (i := 8)  3 (.tmp 53) 54 3 ?_ (Nat.le_of_ble_eq_true rfl) a5 (2 * 1) 0 [vi x35] (vi x35) ?_ (fun w hw => (Rd.own (hw.own 1 rfl)).flat hx36) ?_ ?_ rfl ?_
        · as_aux_lemma => kernel_rfl
        · as_aux_lemma => kernel_rfl
        · as_aux_lemma => kernel_rfl
        · as_aux_lemma => kernel_rfl
        refine HPURE 9 [(0, .v (.string (bs line))), (2, .p 0 0), (5, .v (.slice a5 5 5)), (10, .p 1 0), (48, I x29), (51, I x32), (54, I x35), (55, .v (.slice a5 5 5))] ?_ ?_ rfl ?_
        · as_aux_lemma => kernel_rfl
        · as_aux_lemma => kernel_rfl
        refine FACT (5 = ar.length) (fun w hw => (SlO.lenE (hw.own 1 rfl)).1) (fun hln37 => ?_)
        obtain ⟨x38, hx39⟩ : ∃ y, ar[3]? = some y := ⟨_, List.getElem?_eq_getElem (by omega)⟩
        refine HINDEX (i := 10)  24 (.tmp 55) (.const (vi 3)) 56 0 ?_ (Nat.le_of_ble_eq_true rfl) a5 5 5 .i64 3 3 1 ?_ ?_ ?_ ?_ ha6 (by omega) (by omega) ?_ rfl ?_
        · as_aux_lemma => kernel_rfl
        · as_aux_lemma => kernel_rfl
        · as_aux_lemma => kernel_rfl
        · as_aux_lemma => kernel_rfl
        · as_aux_lemma => kernel_rfl
        · as_aux_lemma => kernel_rfl
        refine HLOADE (i := 11)  3 (.tmp 56) 57 3 ?_ (Nat.le_of_ble_eq_true rfl) a5 (3 * 1) 0 [vi x38] (vi x38) ?_ (fun w hw => (Rd.own (hw.own 1 rfl)).flat hx39) ?_ ?_ rfl ?_
        · as_aux_lemma => kernel_rfl
        · as_aux_lemma => kernel_rfl
        · as_aux_lemma => kernel_rfl
        · as_aux_lemma => kernel_rfl
        refine HPURE 12 [(0, .v (.string (bs line))), (2, .p 0 0), (10, .p 1 0), (48, I x29), (51, I x32), (54, I x35), (57, I x38), (58, .v (.slice a5 5 5))] ?_ ?_ rfl ?_
        · as_aux_lemma => kernel_rfl
        · as_aux_lemma => kernel_rfl
        refine FACT (5 = ar.length) (fun w hw => (SlO.lenE (hw.own 1 rfl)).1) (fun hln40 => ?_)
        obtain ⟨x41, hx42⟩ : ∃ y, ar[4]? = some y := ⟨_, List.getElem?_eq_getElem (by omega)⟩
        refine HINDEX (i := 13)  24 (.tmp 58) (.const (vi 4)) 59 0 ?_ (Nat.le_of_ble_eq_true rfl) a5 5 5 .i64 4 3 1 ?_ ?_ ?_ ?_ ha6 (by omega) (by omega) ?_ rfl ?_
        · as_aux_lemma => kernel_rfl
        · as_aux_lemma => kernel_rfl
        · as_aux_lemma => kernel_rfl
        · as_aux_lemma => kernel_rfl
        · as_aux_lemma => kernel_rfl
        · as_aux_lemma => kernel_rfl
        refine HLOADE (i := 14)  3 (.tmp 59) 60 3 ?_ (Nat.le_of_ble_eq_true rfl) a5 (4 * 1) 0 [vi x41] (vi x41) ?_ (fun w hw => (Rd.own (hw.own 1 rfl)).flat hx42) ?_ ?_ rfl ?_
        · as_aux_lemma => kernel_rfl
        · as_aux_lemma => kernel_rfl
        · as_aux_lemma => kernel_rfl
        · as_aux_lemma => kernel_rfl
        refine HPURE 15 [(0, .v (.string (bs line))), (2, .p 0 0), (10, .p 1 0), (61, .v (.agg #[vi 1, vi x29, vi x32, vi x35, vi x38, vi x41]))] ?_ ?_ rfl ?_
        · as_aux_lemma => kernel_rfl
        · as_aux_lemma => kernel_rfl
        refine HALL [16] ?_ (by decide) ?_
        · as_aux_lemma => kernel_rfl
        refine RUNO [(0, .v (.string (bs line))), (2, .p 0 0), (10, .p 1 0)] [(23, [vi 0, vi 0, vi 0, vi 0, vi 0, vi 0]), (23, [vi 1, vi x29, vi x32, vi x35, vi x38, vi x41])] ?_ ?_
        · as_aux_lemma => kernel_rfl
        refine HKEEP rfl (HEND ?_ ?_)
        · as_aux_lemma => kernel_rfl
        refine OUTN (NEXT (SEQ (SEQ (REGION [0, 1, 2, 3, 4, 5, 6, 7, 8] rfl (RUN0 1 [1, 2, 3, 4, 5, 6, 7, 8] [(0, .v (.string (bs line))), (2, .p 0 0), (10, .p 1 0), (98, .v (.agg #[vi 1, vi x29, vi x32, vi x35, vi x38, vi x41]))] ?_ rfl ?_)))))
        · as_aux_lemma => kernel_rfl
        refine OPC (CALL 29 #[.agg #[vi 1, vi x29, vi x32, vi x35, vi x38, vi x41]] (some 99) ?_ [] [] _ rfl (RV (.bool (reqOk (⟨1, x29, x32, x35, x38, x41⟩ : Req)))) (fun w hw => iReqOk_c w (⟨1, x29, x32, x35, x38, x41⟩ : Req)) (by rintro _ ⟨⟩; exact Nat.le_of_ble_eq_true rfl) ?_)
        · as_aux_lemma => kernel_rfl
        rintro ⟨⟩
        refine RUN0 2 [4, 5, 6, 7, 8] [(0, .v (.string (bs line))), (2, .p 0 0), (10, .p 1 0), (101, B (!(reqOk (⟨1, x29, x32, x35, x38, x41⟩ : Req))))] ?_ rfl ?_
        · as_aux_lemma => kernel_rfl
        refine SPLIT (d := 101) (!(reqOk (⟨1, x29, x32, x35, x38, x41⟩ : Req))) ?_ (fun bh43 => ?_) (fun bh43 => ?_)
        · as_aux_lemma => kernel_rfl
        · -- !(reqOk (⟨1, x29, x32, x35, x38, x41⟩ : Req)) = true
          have h43 := bh43
          have h43 := notT h43
          refine RUN0 5 [] [(2, .p 0 0), (10, .p 1 0), (106, B true)] ?_ rfl ?_
          · as_aux_lemma => kernel_rfl
          refine ENDOPS (NEXT (IFT ?_ ?_))
          · as_aux_lemma => kernel_rfl
          refine SEQ (REGION [0, 1, 2] rfl (RUN0 3 [] [(2, .p 0 0), (3, B false)] ?_ rfl ?_))
          · as_aux_lemma => kernel_rfl
          refine ENDOPS (NEXT (RET (PASS trivial (FIN (.tuple #[.agg #[vi 0, vi 0, vi 0, vi 0, vi 0, vi 0], .bool false]) ?_ () ?_ [] ?_))))
          · as_aux_lemma => kernel_rfl
          · (have e0 := at5_pad hv2 (by omega) (by decide) (hv0 ▸ hx30); have e1 := at5_pad hv2 (by omega) (by decide) (hv0 ▸ hx33); have e2 := at5_pad hv2 (by omega) (by decide) (hv0 ▸ hx36); have e3 := at5_pad hv2 (by omega) (by decide) (hv0 ▸ hx39); have e4 := at5_pad hv2 (by omega) (by decide) (hv0 ▸ hx42); have hz := readI_of (line := line) (l := done) (w := x24) (q := (⟨1, x29, x32, x35, x38, x41⟩ : Req)) (by omega) (by rw [hv1]; simp [readArgs]) hx25 (by rw [iReq, if_pos h27]; rw [← e0, ← e1, ← e2, ← e3, ← e4]); simp only [RV]; rw [hz]; simp only [optReq]; first | (rw [if_pos ⟨by assumption, by assumption⟩]; rfl) | (rw [if_neg (fun e => (by first | exact absurd e.2 (by assumption) | (have h1 := e.1; exact absurd h1 (by simp only [Bool.not_eq_true]; assumption))))]; rfl))
          · rfl
        · -- !(reqOk (⟨1, x29, x32, x35, x38, x41⟩ : Req)) = false
          have h43 := bh43
          have h43 := notF h43
          refine RUN0 1 [5, 6, 7, 8] [(0, .v (.string (bs line))), (2, .p 0 0), (10, .p 1 0), (101, B false), (102, .v (.agg #[vi 1, vi x29, vi x32, vi x35, vi x38, vi x41]))] ?_ rfl ?_
          · as_aux_lemma => kernel_rfl
          refine OPC (CALL 30 #[.agg #[vi 1, vi x29, vi x32, vi x35, vi x38, vi x41]] (some 103) ?_ [] [] _ rfl (RV (.string (bs (reqLine (⟨1, x29, x32, x35, x38, x41⟩ : Req))))) (fun w hw => iReqLine_c w (⟨1, x29, x32, x35, x38, x41⟩ : Req) (htab.fr hw.fr)) (by rintro _ ⟨⟩; exact Nat.le_of_ble_eq_true rfl) ?_)
          · as_aux_lemma => kernel_rfl
          rintro ⟨⟩
          have hr44 := reqLine_len (⟨1, x29, x32, x35, x38, x41⟩ : Req)
          refine RUN0 1 [7, 8] [(2, .p 0 0), (10, .p 1 0), (101, B false), (103, .v (.string (bs (reqLine (⟨1, x29, x32, x35, x38, x41⟩ : Req))))), (104, .v (.string (bs line)))] ?_ rfl ?_
          · as_aux_lemma => kernel_rfl
          refine OPC (RUNV (.binOp .neq 9 (.tmp 103) (.tmp 104) 9) 105 4 ?_ (Nat.le_of_ble_eq_true rfl) (.bool (!((reqLine (⟨1, x29, x32, x35, x38, x41⟩ : Req)) == line))) (runs_sneq (a := reqLine (⟨1, x29, x32, x35, x38, x41⟩ : Req)) (b := line) ?_ ?_) ?_)
          · as_aux_lemma => kernel_rfl
          · as_aux_lemma => kernel_rfl
          · as_aux_lemma => kernel_rfl
          refine RUN0 1 [] [(2, .p 0 0), (10, .p 1 0), (106, B (!((reqLine (⟨1, x29, x32, x35, x38, x41⟩ : Req)) == line)))] ?_ rfl ?_
          · as_aux_lemma => kernel_rfl
          refine ENDOPS (NEXT (IF (!((reqLine (⟨1, x29, x32, x35, x38, x41⟩ : Req)) == line)) ?_ (fun bh45 => ?_) (fun bh45 => ?_)))
          · as_aux_lemma => kernel_rfl
          · -- !((reqLine (⟨1, x29, x32, x35, x38, x41⟩ : Req)) == line) = true
            have h45 := bh45
            have h45 := notT h45
            have h45 := ne_of_beq_false h45
            refine SEQ (REGION [0, 1, 2] rfl (RUN0 3 [] [(2, .p 0 0), (3, B false)] ?_ rfl ?_))
            · as_aux_lemma => kernel_rfl
            refine ENDOPS (NEXT (RET (PASS trivial (FIN (.tuple #[.agg #[vi 0, vi 0, vi 0, vi 0, vi 0, vi 0], .bool false]) ?_ () ?_ [] ?_))))
            · as_aux_lemma => kernel_rfl
            · (have e0 := at5_pad hv2 (by omega) (by decide) (hv0 ▸ hx30); have e1 := at5_pad hv2 (by omega) (by decide) (hv0 ▸ hx33); have e2 := at5_pad hv2 (by omega) (by decide) (hv0 ▸ hx36); have e3 := at5_pad hv2 (by omega) (by decide) (hv0 ▸ hx39); have e4 := at5_pad hv2 (by omega) (by decide) (hv0 ▸ hx42); have hz := readI_of (line := line) (l := done) (w := x24) (q := (⟨1, x29, x32, x35, x38, x41⟩ : Req)) (by omega) (by rw [hv1]; simp [readArgs]) hx25 (by rw [iReq, if_pos h27]; rw [← e0, ← e1, ← e2, ← e3, ← e4]); simp only [RV]; rw [hz]; simp only [optReq]; first | (rw [if_pos ⟨by assumption, by assumption⟩]; rfl) | (rw [if_neg (fun e => (by first | exact absurd e.2 (by assumption) | (have h1 := e.1; exact absurd h1 (by simp only [Bool.not_eq_true]; assumption))))]; rfl))
            · rfl
          · -- !((reqLine (⟨1, x29, x32, x35, x38, x41⟩ : Req)) == line) = false
            have h45 := bh45
            have h45 := notF h45
            have h45 := eq_of_beq h45
            refine SKIP (NEXT (SEQ (REGION [0, 1, 2] rfl (RUN 3 [] [(2, .p 0 0), (3, B true)] [(23, [vi 1, vi x29, vi x32, vi x35, vi x38, vi x41]), (23, [vi 1, vi x29, vi x32, vi x35, vi x38, vi x41])] ?_ rfl ?_))))
            · as_aux_lemma => kernel_rfl
            refine ENDOPS (NEXT (RET (FIN (.tuple #[.agg #[vi 1, vi x29, vi x32, vi x35, vi x38, vi x41], .bool true]) ?_ () ?_ [] ?_)))
            · as_aux_lemma => kernel_rfl
            · (have e0 := at5_pad hv2 (by omega) (by decide) (hv0 ▸ hx30); have e1 := at5_pad hv2 (by omega) (by decide) (hv0 ▸ hx33); have e2 := at5_pad hv2 (by omega) (by decide) (hv0 ▸ hx36); have e3 := at5_pad hv2 (by omega) (by decide) (hv0 ▸ hx39); have e4 := at5_pad hv2 (by omega) (by decide) (hv0 ▸ hx42); have hz := readI_of (line := line) (l := done) (w := x24) (q := (⟨1, x29, x32, x35, x38, x41⟩ : Req)) (by omega) (by rw [hv1]; simp [readArgs]) hx25 (by rw [iReq, if_pos h27]; rw [← e0, ← e1, ← e2, ← e3, ← e4]); simp only [RV]; rw [hz]; simp only [optReq]; first | (rw [if_pos ⟨by assumption, by assumption⟩]; rfl) | (rw [if_neg (fun e => (by first | exact absurd e.2 (by assumption) | (have h1 := e.1; exact absurd h1 (by simp only [Bool.not_eq_true]; assumption))))]; rfl))
            · rfl
      · -- x24 == ([106, 111, 105, 110]) = false
        have h27 := bh27
        have h27 := ne_of_beq_false h27
        refine SEQ (REGION [0, 1] rfl (OPC (RUNV (.binOp .eql 9 (.tmp 43) (.const (.string (bs ([99, 97, 110, 99, 101, 108])))) 9) 63 4 ?_ (Nat.le_of_ble_eq_true rfl) (.bool (x24 == ([99, 97, 110, 99, 101, 108]))) (runs_seql (a := x24) (b := [99, 97, 110, 99, 101, 108]) ?_ ?_) ?_)))
        · as_aux_lemma => kernel_rfl
        · as_aux_lemma => kernel_rfl
        · as_aux_lemma => kernel_rfl
        refine RUN0 1 [] [(0, .v (.string (bs line))), (2, .p 0 0), (5, .v (.slice a5 5 5)), (10, .p 1 0), (43, .v (.string (bs x24))), (62, B (x24 == ([99, 97, 110, 99, 101, 108])))] ?_ rfl ?_
        · as_aux_lemma => kernel_rfl
        refine ENDOPS (NEXT (IF (x24 == ([99, 97, 110, 99, 101, 108])) ?_ (fun bh46 => ?_) (fun bh46 => ?_)))
        · as_aux_lemma => kernel_rfl
        · -- x24 == ([99, 97, 110, 99, 101, 108]) = true
          have h46 := bh46
          have h46 := eq_of_beq h46
          refine REGION [0, 1, 2, 3, 4] rfl (RUN0 1 [1, 2, 3, 4] [(0, .v (.string (bs line))), (2, .p 0 0), (10, .p 1 0), (64, .v (.slice a5 5 5))] ?_ rfl ?_)
          · as_aux_lemma => kernel_rfl
          refine FACT (5 = ar.length) (fun w hw => (SlO.lenE (hw.own 1 rfl)).1) (fun hln47 => ?_)
          obtain ⟨x48, hx49⟩ : ∃ y, ar[0]? = some y := ⟨_, List.getElem?_eq_getElem (by omega)⟩
          refine OPC (INDEX 24 (.tmp 64) (.const (vi 0)) 65 0 ?_ (Nat.le_of_ble_eq_true rfl) a5 5 5 .i64 0 3 1 ?_ ?_ ?_ ?_ ha6 (by omega) (by omega) ?_)
          · as_aux_lemma => kernel_rfl
          · as_aux_lemma => kernel_rfl
          · as_aux_lemma => kernel_rfl
          · as_aux_lemma => kernel_rfl
          · as_aux_lemma => kernel_rfl
          refine OPC (LOADE 3 (.tmp 65) 66 3 ?_ (Nat.le_of_ble_eq_true rfl) a5 (0 * 1) 0 [vi x48] (vi x48) ?_ (fun w hw => (Rd.own (hw.own 1 rfl)).flat hx49) ?_ ?_)
          · as_aux_lemma => kernel_rfl
          · as_aux_lemma => kernel_rfl
          · as_aux_lemma => kernel_rfl
          refine RUN 2 [] [(0, .v (.string (bs line))), (2, .p 0 0), (10, .p 1 0)] [(23, [vi 0, vi 0, vi 0, vi 0, vi 0, vi 0]), (23, [vi 2, vi x48, vi 0, vi 0, vi 0, vi 0])] ?_ rfl ?_
          · as_aux_lemma => kernel_rfl
          refine ENDOPS (OUTN (NEXT (SEQ (SEQ (REGION [0, 1, 2, 3, 4, 5, 6, 7, 8] rfl (RUN0 1 [1, 2, 3, 4, 5, 6, 7, 8] [(0, .v (.string (bs line))), (2, .p 0 0), (10, .p 1 0), (98, .v (.agg #[vi 2, vi x48, vi 0, vi 0, vi 0, vi 0]))] ?_ rfl ?_))))))
          · as_aux_lemma => kernel_rfl
          refine OPC (CALL 29 #[.agg #[vi 2, vi x48, vi 0, vi 0, vi 0, vi 0]] (some 99) ?_ [] [] _ rfl (RV (.bool (reqOk (⟨2, x48, 0, 0, 0, 0⟩ : Req)))) (fun w hw => iReqOk_c w (⟨2, x48, 0, 0, 0, 0⟩ : Req)) (by rintro _ ⟨⟩; exact Nat.le_of_ble_eq_true rfl) ?_)
          · as_aux_lemma => kernel_rfl
          rintro ⟨⟩
          refine RUN0 2 [4, 5, 6, 7, 8] [(0, .v (.string (bs line))), (2, .p 0 0), (10, .p 1 0), (101, B (!(reqOk (⟨2, x48, 0, 0, 0, 0⟩ : Req))))] ?_ rfl ?_
          · as_aux_lemma => kernel_rfl
          refine SPLIT (d := 101) (!(reqOk (⟨2, x48, 0, 0, 0, 0⟩ : Req))) ?_ (fun bh50 => ?_) (fun bh50 => ?_)
          · as_aux_lemma => kernel_rfl
          · -- !(reqOk (⟨2, x48, 0, 0, 0, 0⟩ : Req)) = true
            have h50 := bh50
            have h50 := notT h50
            refine RUN0 5 [] [(2, .p 0 0), (10, .p 1 0), (106, B true)] ?_ rfl ?_
            · as_aux_lemma => kernel_rfl
            refine ENDOPS (NEXT (IFT ?_ ?_))
            · as_aux_lemma => kernel_rfl
            refine SEQ (REGION [0, 1, 2] rfl (RUN0 3 [] [(2, .p 0 0), (3, B false)] ?_ rfl ?_))
            · as_aux_lemma => kernel_rfl
            refine ENDOPS (NEXT (RET (PASS trivial (FIN (.tuple #[.agg #[vi 0, vi 0, vi 0, vi 0, vi 0, vi 0], .bool false]) ?_ () ?_ [] ?_))))
            · as_aux_lemma => kernel_rfl
            · (have e0 := at5_pad hv2 (by omega) (by decide) (hv0 ▸ hx49); have hz := readI_of (line := line) (l := done) (w := x24) (q := (⟨2, x48, 0, 0, 0, 0⟩ : Req)) (by omega) (by rw [hv1]; simp [readArgs]) hx25 (by rw [iReq, if_neg h27, if_pos h46]; rw [← e0]); simp only [RV]; rw [hz]; simp only [optReq]; first | (rw [if_pos ⟨by assumption, by assumption⟩]; rfl) | (rw [if_neg (fun e => (by first | exact absurd e.2 (by assumption) | (have h1 := e.1; exact absurd h1 (by simp only [Bool.not_eq_true]; assumption))))]; rfl))
            · rfl
          · -- !(reqOk (⟨2, x48, 0, 0, 0, 0⟩ : Req)) = false
            have h50 := bh50
            have h50 := notF h50
            refine RUN0 1 [5, 6, 7, 8] [(0, .v (.string (bs line))), (2, .p 0 0), (10, .p 1 0), (101, B false), (102, .v (.agg #[vi 2, vi x48, vi 0, vi 0, vi 0, vi 0]))] ?_ rfl ?_
            · as_aux_lemma => kernel_rfl
            refine OPC (CALL 30 #[.agg #[vi 2, vi x48, vi 0, vi 0, vi 0, vi 0]] (some 103) ?_ [] [] _ rfl (RV (.string (bs (reqLine (⟨2, x48, 0, 0, 0, 0⟩ : Req))))) (fun w hw => iReqLine_c w (⟨2, x48, 0, 0, 0, 0⟩ : Req) (htab.fr hw.fr)) (by rintro _ ⟨⟩; exact Nat.le_of_ble_eq_true rfl) ?_)
            · as_aux_lemma => kernel_rfl
            rintro ⟨⟩
            have hr51 := reqLine_len (⟨2, x48, 0, 0, 0, 0⟩ : Req)
            refine RUN0 1 [7, 8] [(2, .p 0 0), (10, .p 1 0), (101, B false), (103, .v (.string (bs (reqLine (⟨2, x48, 0, 0, 0, 0⟩ : Req))))), (104, .v (.string (bs line)))] ?_ rfl ?_
            · as_aux_lemma => kernel_rfl
            refine OPC (RUNV (.binOp .neq 9 (.tmp 103) (.tmp 104) 9) 105 4 ?_ (Nat.le_of_ble_eq_true rfl) (.bool (!((reqLine (⟨2, x48, 0, 0, 0, 0⟩ : Req)) == line))) (runs_sneq (a := reqLine (⟨2, x48, 0, 0, 0, 0⟩ : Req)) (b := line) ?_ ?_) ?_)
            · as_aux_lemma => kernel_rfl
            · as_aux_lemma => kernel_rfl
            · as_aux_lemma => kernel_rfl
            refine RUN0 1 [] [(2, .p 0 0), (10, .p 1 0), (106, B (!((reqLine (⟨2, x48, 0, 0, 0, 0⟩ : Req)) == line)))] ?_ rfl ?_
            · as_aux_lemma => kernel_rfl
            refine ENDOPS (NEXT (IF (!((reqLine (⟨2, x48, 0, 0, 0, 0⟩ : Req)) == line)) ?_ (fun bh52 => ?_) (fun bh52 => ?_)))
            · as_aux_lemma => kernel_rfl
            · -- !((reqLine (⟨2, x48, 0, 0, 0, 0⟩ : Req)) == line) = true
              have h52 := bh52
              have h52 := notT h52
              have h52 := ne_of_beq_false h52
              refine SEQ (REGION [0, 1, 2] rfl (RUN0 3 [] [(2, .p 0 0), (3, B false)] ?_ rfl ?_))
              · as_aux_lemma => kernel_rfl
              refine ENDOPS (NEXT (RET (PASS trivial (FIN (.tuple #[.agg #[vi 0, vi 0, vi 0, vi 0, vi 0, vi 0], .bool false]) ?_ () ?_ [] ?_))))
              · as_aux_lemma => kernel_rfl
              · (have e0 := at5_pad hv2 (by omega) (by decide) (hv0 ▸ hx49); have hz := readI_of (line := line) (l := done) (w := x24) (q := (⟨2, x48, 0, 0, 0, 0⟩ : Req)) (by omega) (by rw [hv1]; simp [readArgs]) hx25 (by rw [iReq, if_neg h27, if_pos h46]; rw [← e0]); simp only [RV]; rw [hz]; simp only [optReq]; first | (rw [if_pos ⟨by assumption, by assumption⟩]; rfl) | (rw [if_neg (fun e => (by first | exact absurd e.2 (by assumption) | (have h1 := e.1; exact absurd h1 (by simp only [Bool.not_eq_true]; assumption))))]; rfl))
              · rfl
            · -- !((reqLine (⟨2, x48, 0, 0, 0, 0⟩ : Req)) == line) = false
              have h52 := bh52
              have h52 := notF h52
              have h52 := eq_of_beq h52
              refine SKIP (NEXT (SEQ (REGION [0, 1, 2] rfl (RUN 3 [] [(2, .p 0 0), (3, B true)] [(23, [vi 2, vi x48, vi 0, vi 0, vi 0, vi 0]), (23, [vi 2, vi x48, vi 0, vi 0, vi 0, vi 0])] ?_ rfl ?_))))
              · as_aux_lemma => kernel_rfl
              refine ENDOPS (NEXT (RET (FIN (.tuple #[.agg #[vi 2, vi x48, vi 0, vi 0, vi 0, vi 0], .bool true]) ?_ () ?_ [] ?_)))
              · as_aux_lemma => kernel_rfl
              · (have e0 := at5_pad hv2 (by omega) (by decide) (hv0 ▸ hx49); have hz := readI_of (line := line) (l := done) (w := x24) (q := (⟨2, x48, 0, 0, 0, 0⟩ : Req)) (by omega) (by rw [hv1]; simp [readArgs]) hx25 (by rw [iReq, if_neg h27, if_pos h46]; rw [← e0]); simp only [RV]; rw [hz]; simp only [optReq]; first | (rw [if_pos ⟨by assumption, by assumption⟩]; rfl) | (rw [if_neg (fun e => (by first | exact absurd e.2 (by assumption) | (have h1 := e.1; exact absurd h1 (by simp only [Bool.not_eq_true]; assumption))))]; rfl))
              · rfl
        · -- x24 == ([99, 97, 110, 99, 101, 108]) = false
          have h46 := bh46
          have h46 := ne_of_beq_false h46
          refine SEQ (REGION [0, 1] rfl (OPC (RUNV (.binOp .eql 9 (.tmp 43) (.const (.string (bs ([102, 114, 101, 101])))) 9) 69 4 ?_ (Nat.le_of_ble_eq_true rfl) (.bool (x24 == ([102, 114, 101, 101]))) (runs_seql (a := x24) (b := [102, 114, 101, 101]) ?_ ?_) ?_)))
          · as_aux_lemma => kernel_rfl
          · as_aux_lemma => kernel_rfl
          · as_aux_lemma => kernel_rfl
          refine RUN0 1 [] [(0, .v (.string (bs line))), (2, .p 0 0), (5, .v (.slice a5 5 5)), (10, .p 1 0), (43, .v (.string (bs x24))), (68, B (x24 == ([102, 114, 101, 101])))] ?_ rfl ?_
          · as_aux_lemma => kernel_rfl
          refine ENDOPS (NEXT (IF (x24 == ([102, 114, 101, 101])) ?_ (fun bh53 => ?_) (fun bh53 => ?_)))
          · as_aux_lemma => kernel_rfl
          · -- x24 == ([102, 114, 101, 101]) = true
            have h53 := bh53
            have h53 := eq_of_beq h53
            refine REGIONH ?_ 8 rfl [slA 9 strL (.slice a1 (parts line 32).length c2) (parts line 32), slA 3 intL (.slice a5 5 5) ar] ?_
            · as_aux_lemma => kernel_rfl
            refine HPURE 0 [(0, .v (.string (bs line))), (2, .p 0 0), (5, .v (.slice a5 5 5)), (10, .p 1 0), (70, .v (.slice a5 5 5))] ?_ ?_ rfl ?_
            · as_aux_lemma => kernel_rfl
            · as_aux_lemma => kernel_rfl
            refine FACT (5 = ar.length) (fun w hw => (SlO.lenE (hw.own 1 rfl)).1) (fun hln54 => ?_)
            obtain ⟨x55, hx56⟩ : ∃ y, ar[0]? = some y := ⟨_, List.getElem?_eq_getElem (by omega)⟩
            refine HINDEX (i := 1)  24 (.tmp 70) (.const (vi 0)) 71 0 ?_ (Nat.le_of_ble_eq_true rfl) a5 5 5 .i64 0 3 1 ?_ ?_ ?_ ?_ ha6 (by omega) (by omega) ?_ rfl ?_
            · as_aux_lemma => kernel_rfl
            · as_aux_lemma => kernel_rfl
            · as_aux_lemma => kernel_rfl
            · as_aux_lemma => kernel_rfl
            · as_aux_lemma => kernel_rfl
            · as_aux_lemma => kernel_rfl
            refine HLOADE (i := 2)  3 (.tmp 71) 72 3 ?_ (Nat.le_of_ble_eq_true rfl) a5 (0 * 1) 0 [vi x55] (vi x55) ?_ (fun w hw => (Rd.own (hw.own 1 rfl)).flat hx56) ?_ ?_ rfl ?_
            · as_aux_lemma => kernel_rfl
            · as_aux_lemma => kernel_rfl
            · as_aux_lemma => kernel_rfl
            · as_aux_lemma => kernel_rfl
            refine HPURE 3 [(0, .v (.string (bs line))), (2, .p 0 0), (10, .p 1 0), (72, I x55), (73, .v (.slice a5 5 5))] ?_ ?_ rfl ?_
            · as_aux_lemma => kernel_rfl
            · as_aux_lemma => kernel_rfl
            refine FACT (5 = ar.length) (fun w hw => (SlO.lenE (hw.own 1 rfl)).1) (fun hln57 => ?_)
            obtain ⟨x58, hx59⟩ : ∃ y, ar[1]? = some y := ⟨_, List.getElem?_eq_getElem (by omega)⟩
            refine HINDEX (i := 4)  24 (.tmp 73) (.const (vi 1)) 74 0 ?_ (Nat.le_of_ble_eq_true rfl) a5 5 5 .i64 1 3 1 ?_ ?_ ?_ ?_ ha6 (by omega) (by omega) ?_ rfl ?_
            · as_aux_lemma => kernel_rfl
            · as_aux_lemma => kernel_rfl
            · as_aux_lemma => kernel_rfl
            · as_aux_lemma => kernel_rfl
            · as_aux_lemma => kernel_rfl
            · as_aux_lemma => kernel_rfl
            refine HLOADE (i := 5)  3 (.tmp 74) 75 3 ?_ (Nat.le_of_ble_eq_true rfl) a5 (1 * 1) 0 [vi x58] (vi x58) ?_ (fun w hw => (Rd.own (hw.own 1 rfl)).flat hx59) ?_ ?_ rfl ?_
            · as_aux_lemma => kernel_rfl
            · as_aux_lemma => kernel_rfl
            · as_aux_lemma => kernel_rfl
            · as_aux_lemma => kernel_rfl
            refine HPURE 6 [(0, .v (.string (bs line))), (2, .p 0 0), (10, .p 1 0), (76, .v (.agg #[vi 3, vi 0, vi x55, vi 0, vi x58, vi 0]))] ?_ ?_ rfl ?_
            · as_aux_lemma => kernel_rfl
            · as_aux_lemma => kernel_rfl
            refine HALL [7] ?_ (by decide) ?_
            · as_aux_lemma => kernel_rfl
            refine RUNO [(0, .v (.string (bs line))), (2, .p 0 0), (10, .p 1 0)] [(23, [vi 0, vi 0, vi 0, vi 0, vi 0, vi 0]), (23, [vi 3, vi 0, vi x55, vi 0, vi x58, vi 0])] ?_ ?_
            · as_aux_lemma => kernel_rfl
            refine HKEEP rfl (HEND ?_ ?_)
            · as_aux_lemma => kernel_rfl
            refine OUTN (NEXT (SEQ (SEQ (REGION [0, 1, 2, 3, 4, 5, 6, 7, 8] rfl (RUN0 1 [1, 2, 3, 4, 5, 6, 7, 8] [(0, .v (.string (bs line))), (2, .p 0 0), (10, .p 1 0), (98, .v (.agg #[vi 3, vi 0, vi x55, vi 0, vi x58, vi 0]))] ?_ rfl ?_)))))
            · as_aux_lemma => kernel_rfl
            refine OPC (CALL 29 #[.agg #[vi 3, vi 0, vi x55, vi 0, vi x58, vi 0]] (some 99) ?_ [] [] _ rfl (RV (.bool (reqOk (⟨3, 0, x55, 0, x58, 0⟩ : Req)))) (fun w hw => iReqOk_c w (⟨3, 0, x55, 0, x58, 0⟩ : Req)) (by rintro _ ⟨⟩; exact Nat.le_of_ble_eq_true rfl) ?_)
            · as_aux_lemma => kernel_rfl
            rintro ⟨⟩
            refine RUN0 2 [4, 5, 6, 7, 8] [(0, .v (.string (bs line))), (2, .p 0 0), (10, .p 1 0), (101, B (!(reqOk (⟨3, 0, x55, 0, x58, 0⟩ : Req))))] ?_ rfl ?_
            · as_aux_lemma => kernel_rfl
            refine SPLIT (d := 101) (!(reqOk (⟨3, 0, x55, 0, x58, 0⟩ : Req))) ?_ (fun bh60 => ?_) (fun bh60 => ?_)
            · as_aux_lemma => kernel_rfl
            · -- !(reqOk (⟨3, 0, x55, 0, x58, 0⟩ : Req)) = true
              have h60 := bh60
              have h60 := notT h60
              refine RUN0 5 [] [(2, .p 0 0), (10, .p 1 0), (106, B true)] ?_ rfl ?_
              · as_aux_lemma => kernel_rfl
              refine ENDOPS (NEXT (IFT ?_ ?_))
              · as_aux_lemma => kernel_rfl
              refine SEQ (REGION [0, 1, 2] rfl (RUN0 3 [] [(2, .p 0 0), (3, B false)] ?_ rfl ?_))
              · as_aux_lemma => kernel_rfl
              refine ENDOPS (NEXT (RET (PASS trivial (FIN (.tuple #[.agg #[vi 0, vi 0, vi 0, vi 0, vi 0, vi 0], .bool false]) ?_ () ?_ [] ?_))))
              · as_aux_lemma => kernel_rfl
              · (have e0 := at5_pad hv2 (by omega) (by decide) (hv0 ▸ hx56); have e1 := at5_pad hv2 (by omega) (by decide) (hv0 ▸ hx59); have hz := readI_of (line := line) (l := done) (w := x24) (q := (⟨3, 0, x55, 0, x58, 0⟩ : Req)) (by omega) (by rw [hv1]; simp [readArgs]) hx25 (by rw [iReq, if_neg h27, if_neg h46, if_pos h53]; rw [← e0, ← e1]); simp only [RV]; rw [hz]; simp only [optReq]; first | (rw [if_pos ⟨by assumption, by assumption⟩]; rfl) | (rw [if_neg (fun e => (by first | exact absurd e.2 (by assumption) | (have h1 := e.1; exact absurd h1 (by simp only [Bool.not_eq_true]; assumption))))]; rfl))
              · rfl
            · -- !(reqOk (⟨3, 0, x55, 0, x58, 0⟩ : Req)) = false
              have h60 := bh60
              have h60 := notF h60
              refine RUN0 1 [5, 6, 7, 8] [(0, .v (.string (bs line))), (2, .p 0 0), (10, .p 1 0), (101, B false), (102, .v (.agg #[vi 3, vi 0, vi x55, vi 0, vi x58, vi 0]))] ?_ rfl ?_
              · as_aux_lemma => kernel_rfl
              refine OPC (CALL 30 #[.agg #[vi 3, vi 0, vi x55, vi 0, vi x58, vi 0]] (some 103) ?_ [] [] _ rfl (RV (.string (bs (reqLine (⟨3, 0, x55, 0, x58, 0⟩ : Req))))) (fun w hw => iReqLine_c w (⟨3, 0, x55, 0, x58, 0⟩ : Req) (htab.fr hw.fr)) (by rintro _ ⟨⟩; exact Nat.le_of_ble_eq_true rfl) ?_)
              · as_aux_lemma => kernel_rfl
              rintro ⟨⟩
              have hr61 := reqLine_len (⟨3, 0, x55, 0, x58, 0⟩ : Req)
              refine RUN0 1 [7, 8] [(2, .p 0 0), (10, .p 1 0), (101, B false), (103, .v (.string (bs (reqLine (⟨3, 0, x55, 0, x58, 0⟩ : Req))))), (104, .v (.string (bs line)))] ?_ rfl ?_
              · as_aux_lemma => kernel_rfl
              refine OPC (RUNV (.binOp .neq 9 (.tmp 103) (.tmp 104) 9) 105 4 ?_ (Nat.le_of_ble_eq_true rfl) (.bool (!((reqLine (⟨3, 0, x55, 0, x58, 0⟩ : Req)) == line))) (runs_sneq (a := reqLine (⟨3, 0, x55, 0, x58, 0⟩ : Req)) (b := line) ?_ ?_) ?_)
              · as_aux_lemma => kernel_rfl
              · as_aux_lemma => kernel_rfl
              · as_aux_lemma => kernel_rfl
              refine RUN0 1 [] [(2, .p 0 0), (10, .p 1 0), (106, B (!((reqLine (⟨3, 0, x55, 0, x58, 0⟩ : Req)) == line)))] ?_ rfl ?_
              · as_aux_lemma => kernel_rfl
              refine ENDOPS (NEXT (IF (!((reqLine (⟨3, 0, x55, 0, x58, 0⟩ : Req)) == line)) ?_ (fun bh62 => ?_) (fun bh62 => ?_)))
              · as_aux_lemma => kernel_rfl
              · -- !((reqLine (⟨3, 0, x55, 0, x58, 0⟩ : Req)) == line) = true
                have h62 := bh62
                have h62 := notT h62
                have h62 := ne_of_beq_false h62
                refine SEQ (REGION [0, 1, 2] rfl (RUN0 3 [] [(2, .p 0 0), (3, B false)] ?_ rfl ?_))
                · as_aux_lemma => kernel_rfl
                refine ENDOPS (NEXT (RET (PASS trivial (FIN (.tuple #[.agg #[vi 0, vi 0, vi 0, vi 0, vi 0, vi 0], .bool false]) ?_ () ?_ [] ?_))))
                · as_aux_lemma => kernel_rfl
                · (have e0 := at5_pad hv2 (by omega) (by decide) (hv0 ▸ hx56); have e1 := at5_pad hv2 (by omega) (by decide) (hv0 ▸ hx59); have hz := readI_of (line := line) (l := done) (w := x24) (q := (⟨3, 0, x55, 0, x58, 0⟩ : Req)) (by omega) (by rw [hv1]; simp [readArgs]) hx25 (by rw [iReq, if_neg h27, if_neg h46, if_pos h53]; rw [← e0, ← e1]); simp only [RV]; rw [hz]; simp only [optReq]; first | (rw [if_pos ⟨by assumption, by assumption⟩]; rfl) | (rw [if_neg (fun e => (by first | exact absurd e.2 (by assumption) | (have h1 := e.1; exact absurd h1 (by simp only [Bool.not_eq_true]; assumption))))]; rfl))
                · rfl
              · -- !((reqLine (⟨3, 0, x55, 0, x58, 0⟩ : Req)) == line) = false
                have h62 := bh62
                have h62 := notF h62
                have h62 := eq_of_beq h62
                refine SKIP (NEXT (SEQ (REGION [0, 1, 2] rfl (RUN 3 [] [(2, .p 0 0), (3, B true)] [(23, [vi 3, vi 0, vi x55, vi 0, vi x58, vi 0]), (23, [vi 3, vi 0, vi x55, vi 0, vi x58, vi 0])] ?_ rfl ?_))))
                · as_aux_lemma => kernel_rfl
                refine ENDOPS (NEXT (RET (FIN (.tuple #[.agg #[vi 3, vi 0, vi x55, vi 0, vi x58, vi 0], .bool true]) ?_ () ?_ [] ?_)))
                · as_aux_lemma => kernel_rfl
                · (have e0 := at5_pad hv2 (by omega) (by decide) (hv0 ▸ hx56); have e1 := at5_pad hv2 (by omega) (by decide) (hv0 ▸ hx59); have hz := readI_of (line := line) (l := done) (w := x24) (q := (⟨3, 0, x55, 0, x58, 0⟩ : Req)) (by omega) (by rw [hv1]; simp [readArgs]) hx25 (by rw [iReq, if_neg h27, if_neg h46, if_pos h53]; rw [← e0, ← e1]); simp only [RV]; rw [hz]; simp only [optReq]; first | (rw [if_pos ⟨by assumption, by assumption⟩]; rfl) | (rw [if_neg (fun e => (by first | exact absurd e.2 (by assumption) | (have h1 := e.1; exact absurd h1 (by simp only [Bool.not_eq_true]; assumption))))]; rfl))
                · rfl
          · -- x24 == ([102, 114, 101, 101]) = false
            have h53 := bh53
            have h53 := ne_of_beq_false h53
            refine SEQ (REGION [0, 1] rfl (OPC (RUNV (.binOp .eql 9 (.tmp 43) (.const (.string (bs ([97, 99, 99, 101, 112, 116])))) 9) 78 4 ?_ (Nat.le_of_ble_eq_true rfl) (.bool (x24 == ([97, 99, 99, 101, 112, 116]))) (runs_seql (a := x24) (b := [97, 99, 99, 101, 112, 116]) ?_ ?_) ?_)))
            · as_aux_lemma => kernel_rfl
            · as_aux_lemma => kernel_rfl
            · as_aux_lemma => kernel_rfl
            refine RUN0 1 [] [(0, .v (.string (bs line))), (2, .p 0 0), (5, .v (.slice a5 5 5)), (10, .p 1 0), (43, .v (.string (bs x24))), (77, B (x24 == ([97, 99, 99, 101, 112, 116])))] ?_ rfl ?_
            · as_aux_lemma => kernel_rfl
            refine ENDOPS (NEXT (IF (x24 == ([97, 99, 99, 101, 112, 116])) ?_ (fun bh63 => ?_) (fun bh63 => ?_)))
            · as_aux_lemma => kernel_rfl
            · -- x24 == ([97, 99, 99, 101, 112, 116]) = true
              have h63 := bh63
              have h63 := eq_of_beq h63
              refine REGION [0, 1, 2, 3, 4] rfl (RUN0 1 [1, 2, 3, 4] [(0, .v (.string (bs line))), (2, .p 0 0), (10, .p 1 0), (79, .v (.slice a5 5 5))] ?_ rfl ?_)
              · as_aux_lemma => kernel_rfl
              refine FACT (5 = ar.length) (fun w hw => (SlO.lenE (hw.own 1 rfl)).1) (fun hln64 => ?_)
              obtain ⟨x65, hx66⟩ : ∃ y, ar[0]? = some y := ⟨_, List.getElem?_eq_getElem (by omega)⟩
              refine OPC (INDEX 24 (.tmp 79) (.const (vi 0)) 80 0 ?_ (Nat.le_of_ble_eq_true rfl) a5 5 5 .i64 0 3 1 ?_ ?_ ?_ ?_ ha6 (by omega) (by omega) ?_)
              · as_aux_lemma => kernel_rfl
              · as_aux_lemma => kernel_rfl
              · as_aux_lemma => kernel_rfl
              · as_aux_lemma => kernel_rfl
              · as_aux_lemma => kernel_rfl
              refine OPC (LOADE 3 (.tmp 80) 81 3 ?_ (Nat.le_of_ble_eq_true rfl) a5 (0 * 1) 0 [vi x65] (vi x65) ?_ (fun w hw => (Rd.own (hw.own 1 rfl)).flat hx66) ?_ ?_)
              · as_aux_lemma => kernel_rfl
              · as_aux_lemma => kernel_rfl
              · as_aux_lemma => kernel_rfl
              refine RUN 2 [] [(0, .v (.string (bs line))), (2, .p 0 0), (10, .p 1 0)] [(23, [vi 0, vi 0, vi 0, vi 0, vi 0, vi 0]), (23, [vi 4, vi x65, vi 0, vi 0, vi 0, vi 0])] ?_ rfl ?_
              · as_aux_lemma => kernel_rfl
              refine ENDOPS (OUTN (NEXT (SEQ (SEQ (REGION [0, 1, 2, 3, 4, 5, 6, 7, 8] rfl (RUN0 1 [1, 2, 3, 4, 5, 6, 7, 8] [(0, .v (.string (bs line))), (2, .p 0 0), (10, .p 1 0), (98, .v (.agg #[vi 4, vi x65, vi 0, vi 0, vi 0, vi 0]))] ?_ rfl ?_))))))
              · as_aux_lemma => kernel_rfl
              refine OPC (CALL 29 #[.agg #[vi 4, vi x65, vi 0, vi 0, vi 0, vi 0]] (some 99) ?_ [] [] _ rfl (RV (.bool (reqOk (⟨4, x65, 0, 0, 0, 0⟩ : Req)))) (fun w hw => iReqOk_c w (⟨4, x65, 0, 0, 0, 0⟩ : Req)) (by rintro _ ⟨⟩; exact Nat.le_of_ble_eq_true rfl) ?_)
              · as_aux_lemma => kernel_rfl
              rintro ⟨⟩
              refine RUN0 2 [4, 5, 6, 7, 8] [(0, .v (.string (bs line))), (2, .p 0 0), (10, .p 1 0), (101, B (!(reqOk (⟨4, x65, 0, 0, 0, 0⟩ : Req))))] ?_ rfl ?_
              · as_aux_lemma => kernel_rfl
              refine SPLIT (d := 101) (!(reqOk (⟨4, x65, 0, 0, 0, 0⟩ : Req))) ?_ (fun bh67 => ?_) (fun bh67 => ?_)
              · as_aux_lemma => kernel_rfl
              · -- !(reqOk (⟨4, x65, 0, 0, 0, 0⟩ : Req)) = true
                have h67 := bh67
                have h67 := notT h67
                refine RUN0 5 [] [(2, .p 0 0), (10, .p 1 0), (106, B true)] ?_ rfl ?_
                · as_aux_lemma => kernel_rfl
                refine ENDOPS (NEXT (IFT ?_ ?_))
                · as_aux_lemma => kernel_rfl
                refine SEQ (REGION [0, 1, 2] rfl (RUN0 3 [] [(2, .p 0 0), (3, B false)] ?_ rfl ?_))
                · as_aux_lemma => kernel_rfl
                refine ENDOPS (NEXT (RET (PASS trivial (FIN (.tuple #[.agg #[vi 0, vi 0, vi 0, vi 0, vi 0, vi 0], .bool false]) ?_ () ?_ [] ?_))))
                · as_aux_lemma => kernel_rfl
                · (have e0 := at5_pad hv2 (by omega) (by decide) (hv0 ▸ hx66); have hz := readI_of (line := line) (l := done) (w := x24) (q := (⟨4, x65, 0, 0, 0, 0⟩ : Req)) (by omega) (by rw [hv1]; simp [readArgs]) hx25 (by rw [iReq, if_neg h27, if_neg h46, if_neg h53, if_pos h63]; rw [← e0]); simp only [RV]; rw [hz]; simp only [optReq]; first | (rw [if_pos ⟨by assumption, by assumption⟩]; rfl) | (rw [if_neg (fun e => (by first | exact absurd e.2 (by assumption) | (have h1 := e.1; exact absurd h1 (by simp only [Bool.not_eq_true]; assumption))))]; rfl))
                · rfl
              · -- !(reqOk (⟨4, x65, 0, 0, 0, 0⟩ : Req)) = false
                have h67 := bh67
                have h67 := notF h67
                refine RUN0 1 [5, 6, 7, 8] [(0, .v (.string (bs line))), (2, .p 0 0), (10, .p 1 0), (101, B false), (102, .v (.agg #[vi 4, vi x65, vi 0, vi 0, vi 0, vi 0]))] ?_ rfl ?_
                · as_aux_lemma => kernel_rfl
                refine OPC (CALL 30 #[.agg #[vi 4, vi x65, vi 0, vi 0, vi 0, vi 0]] (some 103) ?_ [] [] _ rfl (RV (.string (bs (reqLine (⟨4, x65, 0, 0, 0, 0⟩ : Req))))) (fun w hw => iReqLine_c w (⟨4, x65, 0, 0, 0, 0⟩ : Req) (htab.fr hw.fr)) (by rintro _ ⟨⟩; exact Nat.le_of_ble_eq_true rfl) ?_)
                · as_aux_lemma => kernel_rfl
                rintro ⟨⟩
                have hr68 := reqLine_len (⟨4, x65, 0, 0, 0, 0⟩ : Req)
                refine RUN0 1 [7, 8] [(2, .p 0 0), (10, .p 1 0), (101, B false), (103, .v (.string (bs (reqLine (⟨4, x65, 0, 0, 0, 0⟩ : Req))))), (104, .v (.string (bs line)))] ?_ rfl ?_
                · as_aux_lemma => kernel_rfl
                refine OPC (RUNV (.binOp .neq 9 (.tmp 103) (.tmp 104) 9) 105 4 ?_ (Nat.le_of_ble_eq_true rfl) (.bool (!((reqLine (⟨4, x65, 0, 0, 0, 0⟩ : Req)) == line))) (runs_sneq (a := reqLine (⟨4, x65, 0, 0, 0, 0⟩ : Req)) (b := line) ?_ ?_) ?_)
                · as_aux_lemma => kernel_rfl
                · as_aux_lemma => kernel_rfl
                · as_aux_lemma => kernel_rfl
                refine RUN0 1 [] [(2, .p 0 0), (10, .p 1 0), (106, B (!((reqLine (⟨4, x65, 0, 0, 0, 0⟩ : Req)) == line)))] ?_ rfl ?_
                · as_aux_lemma => kernel_rfl
                refine ENDOPS (NEXT (IF (!((reqLine (⟨4, x65, 0, 0, 0, 0⟩ : Req)) == line)) ?_ (fun bh69 => ?_) (fun bh69 => ?_)))
                · as_aux_lemma => kernel_rfl
                · -- !((reqLine (⟨4, x65, 0, 0, 0, 0⟩ : Req)) == line) = true
                  have h69 := bh69
                  have h69 := notT h69
                  have h69 := ne_of_beq_false h69
                  refine SEQ (REGION [0, 1, 2] rfl (RUN0 3 [] [(2, .p 0 0), (3, B false)] ?_ rfl ?_))
                  · as_aux_lemma => kernel_rfl
                  refine ENDOPS (NEXT (RET (PASS trivial (FIN (.tuple #[.agg #[vi 0, vi 0, vi 0, vi 0, vi 0, vi 0], .bool false]) ?_ () ?_ [] ?_))))
                  · as_aux_lemma => kernel_rfl
                  · (have e0 := at5_pad hv2 (by omega) (by decide) (hv0 ▸ hx66); have hz := readI_of (line := line) (l := done) (w := x24) (q := (⟨4, x65, 0, 0, 0, 0⟩ : Req)) (by omega) (by rw [hv1]; simp [readArgs]) hx25 (by rw [iReq, if_neg h27, if_neg h46, if_neg h53, if_pos h63]; rw [← e0]); simp only [RV]; rw [hz]; simp only [optReq]; first | (rw [if_pos ⟨by assumption, by assumption⟩]; rfl) | (rw [if_neg (fun e => (by first | exact absurd e.2 (by assumption) | (have h1 := e.1; exact absurd h1 (by simp only [Bool.not_eq_true]; assumption))))]; rfl))
                  · rfl
                · -- !((reqLine (⟨4, x65, 0, 0, 0, 0⟩ : Req)) == line) = false
                  have h69 := bh69
                  have h69 := notF h69
                  have h69 := eq_of_beq h69
                  refine SKIP (NEXT (SEQ (REGION [0, 1, 2] rfl (RUN 3 [] [(2, .p 0 0), (3, B true)] [(23, [vi 4, vi x65, vi 0, vi 0, vi 0, vi 0]), (23, [vi 4, vi x65, vi 0, vi 0, vi 0, vi 0])] ?_ rfl ?_))))
                  · as_aux_lemma => kernel_rfl
                  refine ENDOPS (NEXT (RET (FIN (.tuple #[.agg #[vi 4, vi x65, vi 0, vi 0, vi 0, vi 0], .bool true]) ?_ () ?_ [] ?_)))
                  · as_aux_lemma => kernel_rfl
                  · (have e0 := at5_pad hv2 (by omega) (by decide) (hv0 ▸ hx66); have hz := readI_of (line := line) (l := done) (w := x24) (q := (⟨4, x65, 0, 0, 0, 0⟩ : Req)) (by omega) (by rw [hv1]; simp [readArgs]) hx25 (by rw [iReq, if_neg h27, if_neg h46, if_neg h53, if_pos h63]; rw [← e0]); simp only [RV]; rw [hz]; simp only [optReq]; first | (rw [if_pos ⟨by assumption, by assumption⟩]; rfl) | (rw [if_neg (fun e => (by first | exact absurd e.2 (by assumption) | (have h1 := e.1; exact absurd h1 (by simp only [Bool.not_eq_true]; assumption))))]; rfl))
                  · rfl
            · -- x24 == ([97, 99, 99, 101, 112, 116]) = false
              have h63 := bh63
              have h63 := ne_of_beq_false h63
              refine SEQ (REGION [0, 1] rfl (OPC (RUNV (.binOp .eql 9 (.tmp 43) (.const (.string (bs ([100, 101, 99, 108, 105, 110, 101])))) 9) 84 4 ?_ (Nat.le_of_ble_eq_true rfl) (.bool (x24 == ([100, 101, 99, 108, 105, 110, 101]))) (runs_seql (a := x24) (b := [100, 101, 99, 108, 105, 110, 101]) ?_ ?_) ?_)))
              · as_aux_lemma => kernel_rfl
              · as_aux_lemma => kernel_rfl
              · as_aux_lemma => kernel_rfl
              refine RUN0 1 [] [(0, .v (.string (bs line))), (2, .p 0 0), (5, .v (.slice a5 5 5)), (10, .p 1 0), (43, .v (.string (bs x24))), (83, B (x24 == ([100, 101, 99, 108, 105, 110, 101])))] ?_ rfl ?_
              · as_aux_lemma => kernel_rfl
              refine ENDOPS (NEXT (IF (x24 == ([100, 101, 99, 108, 105, 110, 101])) ?_ (fun bh70 => ?_) (fun bh70 => ?_)))
              · as_aux_lemma => kernel_rfl
              · -- x24 == ([100, 101, 99, 108, 105, 110, 101]) = true
                have h70 := bh70
                have h70 := eq_of_beq h70
                refine REGION [0, 1, 2, 3, 4] rfl (RUN0 1 [1, 2, 3, 4] [(0, .v (.string (bs line))), (2, .p 0 0), (10, .p 1 0), (85, .v (.slice a5 5 5))] ?_ rfl ?_)
                · as_aux_lemma => kernel_rfl
                refine FACT (5 = ar.length) (fun w hw => (SlO.lenE (hw.own 1 rfl)).1) (fun hln71 => ?_)
                obtain ⟨x72, hx73⟩ : ∃ y, ar[0]? = some y := ⟨_, List.getElem?_eq_getElem (by omega)⟩
                refine OPC (INDEX 24 (.tmp 85) (.const (vi 0)) 86 0 ?_ (Nat.le_of_ble_eq_true rfl) a5 5 5 .i64 0 3 1 ?_ ?_ ?_ ?_ ha6 (by omega) (by omega) ?_)
                · as_aux_lemma => kernel_rfl
                · as_aux_lemma => kernel_rfl
                · as_aux_lemma => kernel_rfl
                · as_aux_lemma => kernel_rfl
                · as_aux_lemma => kernel_rfl
                refine OPC (LOADE 3 (.tmp 86) 87 3 ?_ (Nat.le_of_ble_eq_true rfl) a5 (0 * 1) 0 [vi x72] (vi x72) ?_ (fun w hw => (Rd.own (hw.own 1 rfl)).flat hx73) ?_ ?_)
                · as_aux_lemma => kernel_rfl
                · as_aux_lemma => kernel_rfl
                · as_aux_lemma => kernel_rfl
                refine RUN 2 [] [(0, .v (.string (bs line))), (2, .p 0 0), (10, .p 1 0)] [(23, [vi 0, vi 0, vi 0, vi 0, vi 0, vi 0]), (23, [vi 5, vi x72, vi 0, vi 0, vi 0, vi 0])] ?_ rfl ?_
                · as_aux_lemma => kernel_rfl
                refine ENDOPS (OUTN (NEXT (SEQ (SEQ (REGION [0, 1, 2, 3, 4, 5, 6, 7, 8] rfl (RUN0 1 [1, 2, 3, 4, 5, 6, 7, 8] [(0, .v (.string (bs line))), (2, .p 0 0), (10, .p 1 0), (98, .v (.agg #[vi 5, vi x72, vi 0, vi 0, vi 0, vi 0]))] ?_ rfl ?_))))))
                · as_aux_lemma => kernel_rfl
                refine OPC (CALL 29 #[.agg #[vi 5, vi x72, vi 0, vi 0, vi 0, vi 0]] (some 99) ?_ [] [] _ rfl (RV (.bool (reqOk (⟨5, x72, 0, 0, 0, 0⟩ : Req)))) (fun w hw => iReqOk_c w (⟨5, x72, 0, 0, 0, 0⟩ : Req)) (by rintro _ ⟨⟩; exact Nat.le_of_ble_eq_true rfl) ?_)
                · as_aux_lemma => kernel_rfl
                rintro ⟨⟩
                refine RUN0 2 [4, 5, 6, 7, 8] [(0, .v (.string (bs line))), (2, .p 0 0), (10, .p 1 0), (101, B (!(reqOk (⟨5, x72, 0, 0, 0, 0⟩ : Req))))] ?_ rfl ?_
                · as_aux_lemma => kernel_rfl
                refine SPLIT (d := 101) (!(reqOk (⟨5, x72, 0, 0, 0, 0⟩ : Req))) ?_ (fun bh74 => ?_) (fun bh74 => ?_)
                · as_aux_lemma => kernel_rfl
                · -- !(reqOk (⟨5, x72, 0, 0, 0, 0⟩ : Req)) = true
                  have h74 := bh74
                  have h74 := notT h74
                  refine RUN0 5 [] [(2, .p 0 0), (10, .p 1 0), (106, B true)] ?_ rfl ?_
                  · as_aux_lemma => kernel_rfl
                  refine ENDOPS (NEXT (IFT ?_ ?_))
                  · as_aux_lemma => kernel_rfl
                  refine SEQ (REGION [0, 1, 2] rfl (RUN0 3 [] [(2, .p 0 0), (3, B false)] ?_ rfl ?_))
                  · as_aux_lemma => kernel_rfl
                  refine ENDOPS (NEXT (RET (PASS trivial (FIN (.tuple #[.agg #[vi 0, vi 0, vi 0, vi 0, vi 0, vi 0], .bool false]) ?_ () ?_ [] ?_))))
                  · as_aux_lemma => kernel_rfl
                  · (have e0 := at5_pad hv2 (by omega) (by decide) (hv0 ▸ hx73); have hz := readI_of (line := line) (l := done) (w := x24) (q := (⟨5, x72, 0, 0, 0, 0⟩ : Req)) (by omega) (by rw [hv1]; simp [readArgs]) hx25 (by rw [iReq, if_neg h27, if_neg h46, if_neg h53, if_neg h63, if_pos h70]; rw [← e0]); simp only [RV]; rw [hz]; simp only [optReq]; first | (rw [if_pos ⟨by assumption, by assumption⟩]; rfl) | (rw [if_neg (fun e => (by first | exact absurd e.2 (by assumption) | (have h1 := e.1; exact absurd h1 (by simp only [Bool.not_eq_true]; assumption))))]; rfl))
                  · rfl
                · -- !(reqOk (⟨5, x72, 0, 0, 0, 0⟩ : Req)) = false
                  have h74 := bh74
                  have h74 := notF h74
                  refine RUN0 1 [5, 6, 7, 8] [(0, .v (.string (bs line))), (2, .p 0 0), (10, .p 1 0), (101, B false), (102, .v (.agg #[vi 5, vi x72, vi 0, vi 0, vi 0, vi 0]))] ?_ rfl ?_
                  · as_aux_lemma => kernel_rfl
                  refine OPC (CALL 30 #[.agg #[vi 5, vi x72, vi 0, vi 0, vi 0, vi 0]] (some 103) ?_ [] [] _ rfl (RV (.string (bs (reqLine (⟨5, x72, 0, 0, 0, 0⟩ : Req))))) (fun w hw => iReqLine_c w (⟨5, x72, 0, 0, 0, 0⟩ : Req) (htab.fr hw.fr)) (by rintro _ ⟨⟩; exact Nat.le_of_ble_eq_true rfl) ?_)
                  · as_aux_lemma => kernel_rfl
                  rintro ⟨⟩
                  have hr75 := reqLine_len (⟨5, x72, 0, 0, 0, 0⟩ : Req)
                  refine RUN0 1 [7, 8] [(2, .p 0 0), (10, .p 1 0), (101, B false), (103, .v (.string (bs (reqLine (⟨5, x72, 0, 0, 0, 0⟩ : Req))))), (104, .v (.string (bs line)))] ?_ rfl ?_
                  · as_aux_lemma => kernel_rfl
                  refine OPC (RUNV (.binOp .neq 9 (.tmp 103) (.tmp 104) 9) 105 4 ?_ (Nat.le_of_ble_eq_true rfl) (.bool (!((reqLine (⟨5, x72, 0, 0, 0, 0⟩ : Req)) == line))) (runs_sneq (a := reqLine (⟨5, x72, 0, 0, 0, 0⟩ : Req)) (b := line) ?_ ?_) ?_)
                  · as_aux_lemma => kernel_rfl
                  · as_aux_lemma => kernel_rfl
                  · as_aux_lemma => kernel_rfl
                  refine RUN0 1 [] [(2, .p 0 0), (10, .p 1 0), (106, B (!((reqLine (⟨5, x72, 0, 0, 0, 0⟩ : Req)) == line)))] ?_ rfl ?_
                  · as_aux_lemma => kernel_rfl
                  refine ENDOPS (NEXT (IF (!((reqLine (⟨5, x72, 0, 0, 0, 0⟩ : Req)) == line)) ?_ (fun bh76 => ?_) (fun bh76 => ?_)))
                  · as_aux_lemma => kernel_rfl
                  · -- !((reqLine (⟨5, x72, 0, 0, 0, 0⟩ : Req)) == line) = true
                    have h76 := bh76
                    have h76 := notT h76
                    have h76 := ne_of_beq_false h76
                    refine SEQ (REGION [0, 1, 2] rfl (RUN0 3 [] [(2, .p 0 0), (3, B false)] ?_ rfl ?_))
                    · as_aux_lemma => kernel_rfl
                    refine ENDOPS (NEXT (RET (PASS trivial (FIN (.tuple #[.agg #[vi 0, vi 0, vi 0, vi 0, vi 0, vi 0], .bool false]) ?_ () ?_ [] ?_))))
                    · as_aux_lemma => kernel_rfl
                    · (have e0 := at5_pad hv2 (by omega) (by decide) (hv0 ▸ hx73); have hz := readI_of (line := line) (l := done) (w := x24) (q := (⟨5, x72, 0, 0, 0, 0⟩ : Req)) (by omega) (by rw [hv1]; simp [readArgs]) hx25 (by rw [iReq, if_neg h27, if_neg h46, if_neg h53, if_neg h63, if_pos h70]; rw [← e0]); simp only [RV]; rw [hz]; simp only [optReq]; first | (rw [if_pos ⟨by assumption, by assumption⟩]; rfl) | (rw [if_neg (fun e => (by first | exact absurd e.2 (by assumption) | (have h1 := e.1; exact absurd h1 (by simp only [Bool.not_eq_true]; assumption))))]; rfl))
                    · rfl
                  · -- !((reqLine (⟨5, x72, 0, 0, 0, 0⟩ : Req)) == line) = false
                    have h76 := bh76
                    have h76 := notF h76
                    have h76 := eq_of_beq h76
                    refine SKIP (NEXT (SEQ (REGION [0, 1, 2] rfl (RUN 3 [] [(2, .p 0 0), (3, B true)] [(23, [vi 5, vi x72, vi 0, vi 0, vi 0, vi 0]), (23, [vi 5, vi x72, vi 0, vi 0, vi 0, vi 0])] ?_ rfl ?_))))
                    · as_aux_lemma => kernel_rfl
                    refine ENDOPS (NEXT (RET (FIN (.tuple #[.agg #[vi 5, vi x72, vi 0, vi 0, vi 0, vi 0], .bool true]) ?_ () ?_ [] ?_)))
                    · as_aux_lemma => kernel_rfl
                    · (have e0 := at5_pad hv2 (by omega) (by decide) (hv0 ▸ hx73); have hz := readI_of (line := line) (l := done) (w := x24) (q := (⟨5, x72, 0, 0, 0, 0⟩ : Req)) (by omega) (by rw [hv1]; simp [readArgs]) hx25 (by rw [iReq, if_neg h27, if_neg h46, if_neg h53, if_neg h63, if_pos h70]; rw [← e0]); simp only [RV]; rw [hz]; simp only [optReq]; first | (rw [if_pos ⟨by assumption, by assumption⟩]; rfl) | (rw [if_neg (fun e => (by first | exact absurd e.2 (by assumption) | (have h1 := e.1; exact absurd h1 (by simp only [Bool.not_eq_true]; assumption))))]; rfl))
                    · rfl
              · -- x24 == ([100, 101, 99, 108, 105, 110, 101]) = false
                have h70 := bh70
                have h70 := ne_of_beq_false h70
                refine SEQ (REGION [0, 1] rfl (OPC (RUNV (.binOp .eql 9 (.tmp 43) (.const (.string (bs ([116, 105, 99, 107])))) 9) 90 4 ?_ (Nat.le_of_ble_eq_true rfl) (.bool (x24 == ([116, 105, 99, 107]))) (runs_seql (a := x24) (b := [116, 105, 99, 107]) ?_ ?_) ?_)))
                · as_aux_lemma => kernel_rfl
                · as_aux_lemma => kernel_rfl
                · as_aux_lemma => kernel_rfl
                refine RUN0 1 [] [(0, .v (.string (bs line))), (2, .p 0 0), (5, .v (.slice a5 5 5)), (10, .p 1 0), (43, .v (.string (bs x24))), (89, B (x24 == ([116, 105, 99, 107])))] ?_ rfl ?_
                · as_aux_lemma => kernel_rfl
                refine ENDOPS (NEXT (IF (x24 == ([116, 105, 99, 107])) ?_ (fun bh77 => ?_) (fun bh77 => ?_)))
                · as_aux_lemma => kernel_rfl
                · -- x24 == ([116, 105, 99, 107]) = true
                  have h77 := bh77
                  have h77 := eq_of_beq h77
                  refine REGION [0, 1] rfl (RUN 2 [] [(0, .v (.string (bs line))), (2, .p 0 0), (10, .p 1 0)] [(23, [vi 0, vi 0, vi 0, vi 0, vi 0, vi 0]), (23, [vi 6, vi 0, vi 0, vi 0, vi 0, vi 0])] ?_ rfl ?_)
                  · as_aux_lemma => kernel_rfl
                  refine ENDOPS (OUTN (NEXT (SEQ (SEQ (REGION [0, 1, 2, 3, 4, 5, 6, 7, 8] rfl (RUN0 1 [1, 2, 3, 4, 5, 6, 7, 8] [(0, .v (.string (bs line))), (2, .p 0 0), (10, .p 1 0), (98, .v (.agg #[vi 6, vi 0, vi 0, vi 0, vi 0, vi 0]))] ?_ rfl ?_))))))
                  · as_aux_lemma => kernel_rfl
                  refine OPC (CALL 29 #[.agg #[vi 6, vi 0, vi 0, vi 0, vi 0, vi 0]] (some 99) ?_ [] [] _ rfl (RV (.bool (reqOk (⟨6, 0, 0, 0, 0, 0⟩ : Req)))) (fun w hw => iReqOk_c w (⟨6, 0, 0, 0, 0, 0⟩ : Req)) (by rintro _ ⟨⟩; exact Nat.le_of_ble_eq_true rfl) ?_)
                  · as_aux_lemma => kernel_rfl
                  rintro ⟨⟩
                  refine RUN0 2 [4, 5, 6, 7, 8] [(0, .v (.string (bs line))), (2, .p 0 0), (10, .p 1 0), (101, B (!(reqOk (⟨6, 0, 0, 0, 0, 0⟩ : Req))))] ?_ rfl ?_
                  · as_aux_lemma => kernel_rfl
                  refine SPLIT (d := 101) (!(reqOk (⟨6, 0, 0, 0, 0, 0⟩ : Req))) ?_ (fun bh78 => ?_) (fun bh78 => ?_)
                  · as_aux_lemma => kernel_rfl
                  · -- !(reqOk (⟨6, 0, 0, 0, 0, 0⟩ : Req)) = true
                    have h78 := bh78
                    have h78 := notT h78
                    refine RUN0 5 [] [(2, .p 0 0), (10, .p 1 0), (106, B true)] ?_ rfl ?_
                    · as_aux_lemma => kernel_rfl
                    refine ENDOPS (NEXT (IFT ?_ ?_))
                    · as_aux_lemma => kernel_rfl
                    refine SEQ (REGION [0, 1, 2] rfl (RUN0 3 [] [(2, .p 0 0), (3, B false)] ?_ rfl ?_))
                    · as_aux_lemma => kernel_rfl
                    refine ENDOPS (NEXT (RET (PASS trivial (FIN (.tuple #[.agg #[vi 0, vi 0, vi 0, vi 0, vi 0, vi 0], .bool false]) ?_ () ?_ [] ?_))))
                    · as_aux_lemma => kernel_rfl
                    · (have hz := readI_of (line := line) (l := done) (w := x24) (q := (⟨6, 0, 0, 0, 0, 0⟩ : Req)) (by omega) (by rw [hv1]; simp [readArgs]) hx25 (by rw [iReq, if_neg h27, if_neg h46, if_neg h53, if_neg h63, if_neg h70, if_pos h77]); simp only [RV]; rw [hz]; simp only [optReq]; first | (rw [if_pos ⟨by assumption, by assumption⟩]; rfl) | (rw [if_neg (fun e => (by first | exact absurd e.2 (by assumption) | (have h1 := e.1; exact absurd h1 (by simp only [Bool.not_eq_true]; assumption))))]; rfl))
                    · rfl
                  · -- !(reqOk (⟨6, 0, 0, 0, 0, 0⟩ : Req)) = false
                    have h78 := bh78
                    have h78 := notF h78
                    refine RUN0 1 [5, 6, 7, 8] [(0, .v (.string (bs line))), (2, .p 0 0), (10, .p 1 0), (101, B false), (102, .v (.agg #[vi 6, vi 0, vi 0, vi 0, vi 0, vi 0]))] ?_ rfl ?_
                    · as_aux_lemma => kernel_rfl
                    refine OPC (CALL 30 #[.agg #[vi 6, vi 0, vi 0, vi 0, vi 0, vi 0]] (some 103) ?_ [] [] _ rfl (RV (.string (bs (reqLine (⟨6, 0, 0, 0, 0, 0⟩ : Req))))) (fun w hw => iReqLine_c w (⟨6, 0, 0, 0, 0, 0⟩ : Req) (htab.fr hw.fr)) (by rintro _ ⟨⟩; exact Nat.le_of_ble_eq_true rfl) ?_)
                    · as_aux_lemma => kernel_rfl
                    rintro ⟨⟩
                    have hr79 := reqLine_len (⟨6, 0, 0, 0, 0, 0⟩ : Req)
                    refine RUN0 1 [7, 8] [(2, .p 0 0), (10, .p 1 0), (101, B false), (103, .v (.string (bs (reqLine (⟨6, 0, 0, 0, 0, 0⟩ : Req))))), (104, .v (.string (bs line)))] ?_ rfl ?_
                    · as_aux_lemma => kernel_rfl
                    refine OPC (RUNV (.binOp .neq 9 (.tmp 103) (.tmp 104) 9) 105 4 ?_ (Nat.le_of_ble_eq_true rfl) (.bool (!((reqLine (⟨6, 0, 0, 0, 0, 0⟩ : Req)) == line))) (runs_sneq (a := reqLine (⟨6, 0, 0, 0, 0, 0⟩ : Req)) (b := line) ?_ ?_) ?_)
                    · as_aux_lemma => kernel_rfl
                    · as_aux_lemma => kernel_rfl
                    · as_aux_lemma => kernel_rfl
                    refine RUN0 1 [] [(2, .p 0 0), (10, .p 1 0), (106, B (!((reqLine (⟨6, 0, 0, 0, 0, 0⟩ : Req)) == line)))] ?_ rfl ?_
                    · as_aux_lemma => kernel_rfl
                    refine ENDOPS (NEXT (IF (!((reqLine (⟨6, 0, 0, 0, 0, 0⟩ : Req)) == line)) ?_ (fun bh80 => ?_) (fun bh80 => ?_)))
                    · as_aux_lemma => kernel_rfl
                    · -- !((reqLine (⟨6, 0, 0, 0, 0, 0⟩ : Req)) == line) = true
                      have h80 := bh80
                      have h80 := notT h80
                      have h80 := ne_of_beq_false h80
                      refine SEQ (REGION [0, 1, 2] rfl (RUN0 3 [] [(2, .p 0 0), (3, B false)] ?_ rfl ?_))
                      · as_aux_lemma => kernel_rfl
                      refine ENDOPS (NEXT (RET (PASS trivial (FIN (.tuple #[.agg #[vi 0, vi 0, vi 0, vi 0, vi 0, vi 0], .bool false]) ?_ () ?_ [] ?_))))
                      · as_aux_lemma => kernel_rfl
                      · (have hz := readI_of (line := line) (l := done) (w := x24) (q := (⟨6, 0, 0, 0, 0, 0⟩ : Req)) (by omega) (by rw [hv1]; simp [readArgs]) hx25 (by rw [iReq, if_neg h27, if_neg h46, if_neg h53, if_neg h63, if_neg h70, if_pos h77]); simp only [RV]; rw [hz]; simp only [optReq]; first | (rw [if_pos ⟨by assumption, by assumption⟩]; rfl) | (rw [if_neg (fun e => (by first | exact absurd e.2 (by assumption) | (have h1 := e.1; exact absurd h1 (by simp only [Bool.not_eq_true]; assumption))))]; rfl))
                      · rfl
                    · -- !((reqLine (⟨6, 0, 0, 0, 0, 0⟩ : Req)) == line) = false
                      have h80 := bh80
                      have h80 := notF h80
                      have h80 := eq_of_beq h80
                      refine SKIP (NEXT (SEQ (REGION [0, 1, 2] rfl (RUN 3 [] [(2, .p 0 0), (3, B true)] [(23, [vi 6, vi 0, vi 0, vi 0, vi 0, vi 0]), (23, [vi 6, vi 0, vi 0, vi 0, vi 0, vi 0])] ?_ rfl ?_))))
                      · as_aux_lemma => kernel_rfl
                      refine ENDOPS (NEXT (RET (FIN (.tuple #[.agg #[vi 6, vi 0, vi 0, vi 0, vi 0, vi 0], .bool true]) ?_ () ?_ [] ?_)))
                      · as_aux_lemma => kernel_rfl
                      · (have hz := readI_of (line := line) (l := done) (w := x24) (q := (⟨6, 0, 0, 0, 0, 0⟩ : Req)) (by omega) (by rw [hv1]; simp [readArgs]) hx25 (by rw [iReq, if_neg h27, if_neg h46, if_neg h53, if_neg h63, if_neg h70, if_pos h77]); simp only [RV]; rw [hz]; simp only [optReq]; first | (rw [if_pos ⟨by assumption, by assumption⟩]; rfl) | (rw [if_neg (fun e => (by first | exact absurd e.2 (by assumption) | (have h1 := e.1; exact absurd h1 (by simp only [Bool.not_eq_true]; assumption))))]; rfl))
                      · rfl
                · -- x24 == ([116, 105, 99, 107]) = false
                  have h77 := bh77
                  have h77 := ne_of_beq_false h77
                  refine SEQ (REGION [0, 1] rfl (OPC (RUNV (.binOp .eql 9 (.tmp 43) (.const (.string (bs ([112, 105, 99, 107])))) 9) 93 4 ?_ (Nat.le_of_ble_eq_true rfl) (.bool (x24 == ([112, 105, 99, 107]))) (runs_seql (a := x24) (b := [112, 105, 99, 107]) ?_ ?_) ?_)))
                  · as_aux_lemma => kernel_rfl
                  · as_aux_lemma => kernel_rfl
                  · as_aux_lemma => kernel_rfl
                  refine RUN0 1 [] [(0, .v (.string (bs line))), (2, .p 0 0), (5, .v (.slice a5 5 5)), (10, .p 1 0), (92, B (x24 == ([112, 105, 99, 107])))] ?_ rfl ?_
                  · as_aux_lemma => kernel_rfl
                  refine ENDOPS (NEXT (IF (x24 == ([112, 105, 99, 107])) ?_ (fun bh81 => ?_) (fun bh81 => ?_)))
                  · as_aux_lemma => kernel_rfl
                  · -- x24 == ([112, 105, 99, 107]) = true
                    have h81 := bh81
                    have h81 := eq_of_beq h81
                    refine REGION [0, 1, 2, 3, 4] rfl (RUN0 1 [1, 2, 3, 4] [(0, .v (.string (bs line))), (2, .p 0 0), (10, .p 1 0), (94, .v (.slice a5 5 5))] ?_ rfl ?_)
                    · as_aux_lemma => kernel_rfl
                    refine FACT (5 = ar.length) (fun w hw => (SlO.lenE (hw.own 1 rfl)).1) (fun hln82 => ?_)
                    obtain ⟨x83, hx84⟩ : ∃ y, ar[0]? = some y := ⟨_, List.getElem?_eq_getElem (by omega)⟩
                    refine OPC (INDEX 24 (.tmp 94) (.const (vi 0)) 95 0 ?_ (Nat.le_of_ble_eq_true rfl) a5 5 5 .i64 0 3 1 ?_ ?_ ?_ ?_ ha6 (by omega) (by omega) ?_)
                    · as_aux_lemma => kernel_rfl
                    · as_aux_lemma => kernel_rfl
                    · as_aux_lemma => kernel_rfl
                    · as_aux_lemma => kernel_rfl
                    · as_aux_lemma => kernel_rfl
                    refine OPC (LOADE 3 (.tmp 95) 96 3 ?_ (Nat.le_of_ble_eq_true rfl) a5 (0 * 1) 0 [vi x83] (vi x83) ?_ (fun w hw => (Rd.own (hw.own 1 rfl)).flat hx84) ?_ ?_)
                    · as_aux_lemma => kernel_rfl
                    · as_aux_lemma => kernel_rfl
                    · as_aux_lemma => kernel_rfl
                    refine RUN 2 [] [(0, .v (.string (bs line))), (2, .p 0 0), (10, .p 1 0)] [(23, [vi 0, vi 0, vi 0, vi 0, vi 0, vi 0]), (23, [vi 7, vi x83, vi 0, vi 0, vi 0, vi 0])] ?_ rfl ?_
                    · as_aux_lemma => kernel_rfl
                    refine ENDOPS (OUTN (NEXT (SEQ (SEQ (REGION [0, 1, 2, 3, 4, 5, 6, 7, 8] rfl (RUN0 1 [1, 2, 3, 4, 5, 6, 7, 8] [(0, .v (.string (bs line))), (2, .p 0 0), (10, .p 1 0), (98, .v (.agg #[vi 7, vi x83, vi 0, vi 0, vi 0, vi 0]))] ?_ rfl ?_))))))
                    · as_aux_lemma => kernel_rfl
                    refine OPC (CALL 29 #[.agg #[vi 7, vi x83, vi 0, vi 0, vi 0, vi 0]] (some 99) ?_ [] [] _ rfl (RV (.bool (reqOk (⟨7, x83, 0, 0, 0, 0⟩ : Req)))) (fun w hw => iReqOk_c w (⟨7, x83, 0, 0, 0, 0⟩ : Req)) (by rintro _ ⟨⟩; exact Nat.le_of_ble_eq_true rfl) ?_)
                    · as_aux_lemma => kernel_rfl
                    rintro ⟨⟩
                    refine RUN0 2 [4, 5, 6, 7, 8] [(0, .v (.string (bs line))), (2, .p 0 0), (10, .p 1 0), (101, B (!(reqOk (⟨7, x83, 0, 0, 0, 0⟩ : Req))))] ?_ rfl ?_
                    · as_aux_lemma => kernel_rfl
                    refine SPLIT (d := 101) (!(reqOk (⟨7, x83, 0, 0, 0, 0⟩ : Req))) ?_ (fun bh85 => ?_) (fun bh85 => ?_)
                    · as_aux_lemma => kernel_rfl
                    · -- !(reqOk (⟨7, x83, 0, 0, 0, 0⟩ : Req)) = true
                      have h85 := bh85
                      have h85 := notT h85
                      refine RUN0 5 [] [(2, .p 0 0), (10, .p 1 0), (106, B true)] ?_ rfl ?_
                      · as_aux_lemma => kernel_rfl
                      refine ENDOPS (NEXT (IFT ?_ ?_))
                      · as_aux_lemma => kernel_rfl
                      refine SEQ (REGION [0, 1, 2] rfl (RUN0 3 [] [(2, .p 0 0), (3, B false)] ?_ rfl ?_))
                      · as_aux_lemma => kernel_rfl
                      refine ENDOPS (NEXT (RET (PASS trivial (FIN (.tuple #[.agg #[vi 0, vi 0, vi 0, vi 0, vi 0, vi 0], .bool false]) ?_ () ?_ [] ?_))))
                      · as_aux_lemma => kernel_rfl
                      · (have e0 := at5_pad hv2 (by omega) (by decide) (hv0 ▸ hx84); have hz := readI_of (line := line) (l := done) (w := x24) (q := (⟨7, x83, 0, 0, 0, 0⟩ : Req)) (by omega) (by rw [hv1]; simp [readArgs]) hx25 (by rw [iReq, if_neg h27, if_neg h46, if_neg h53, if_neg h63, if_neg h70, if_neg h77, if_pos h81]; rw [← e0]); simp only [RV]; rw [hz]; simp only [optReq]; first | (rw [if_pos ⟨by assumption, by assumption⟩]; rfl) | (rw [if_neg (fun e => (by first | exact absurd e.2 (by assumption) | (have h1 := e.1; exact absurd h1 (by simp only [Bool.not_eq_true]; assumption))))]; rfl))
                      · rfl
                    · -- !(reqOk (⟨7, x83, 0, 0, 0, 0⟩ : Req)) = false
                      have h85 := bh85
                      have h85 := notF h85
                      refine RUN0 1 [5, 6, 7, 8] [(0, .v (.string (bs line))), (2, .p 0 0), (10, .p 1 0), (101, B false), (102, .v (.agg #[vi 7, vi x83, vi 0, vi 0, vi 0, vi 0]))] ?_ rfl ?_
                      · as_aux_lemma => kernel_rfl
                      refine OPC (CALL 30 #[.agg #[vi 7, vi x83, vi 0, vi 0, vi 0, vi 0]] (some 103) ?_ [] [] _ rfl (RV (.string (bs (reqLine (⟨7, x83, 0, 0, 0, 0⟩ : Req))))) (fun w hw => iReqLine_c w (⟨7, x83, 0, 0, 0, 0⟩ : Req) (htab.fr hw.fr)) (by rintro _ ⟨⟩; exact Nat.le_of_ble_eq_true rfl) ?_)
                      · as_aux_lemma => kernel_rfl
                      rintro ⟨⟩
                      have hr86 := reqLine_len (⟨7, x83, 0, 0, 0, 0⟩ : Req)
                      refine RUN0 1 [7, 8] [(2, .p 0 0), (10, .p 1 0), (101, B false), (103, .v (.string (bs (reqLine (⟨7, x83, 0, 0, 0, 0⟩ : Req))))), (104, .v (.string (bs line)))] ?_ rfl ?_
                      · as_aux_lemma => kernel_rfl
                      refine OPC (RUNV (.binOp .neq 9 (.tmp 103) (.tmp 104) 9) 105 4 ?_ (Nat.le_of_ble_eq_true rfl) (.bool (!((reqLine (⟨7, x83, 0, 0, 0, 0⟩ : Req)) == line))) (runs_sneq (a := reqLine (⟨7, x83, 0, 0, 0, 0⟩ : Req)) (b := line) ?_ ?_) ?_)
                      · as_aux_lemma => kernel_rfl
                      · as_aux_lemma => kernel_rfl
                      · as_aux_lemma => kernel_rfl
                      refine RUN0 1 [] [(2, .p 0 0), (10, .p 1 0), (106, B (!((reqLine (⟨7, x83, 0, 0, 0, 0⟩ : Req)) == line)))] ?_ rfl ?_
                      · as_aux_lemma => kernel_rfl
                      refine ENDOPS (NEXT (IF (!((reqLine (⟨7, x83, 0, 0, 0, 0⟩ : Req)) == line)) ?_ (fun bh87 => ?_) (fun bh87 => ?_)))
                      · as_aux_lemma => kernel_rfl
                      · -- !((reqLine (⟨7, x83, 0, 0, 0, 0⟩ : Req)) == line) = true
                        have h87 := bh87
                        have h87 := notT h87
                        have h87 := ne_of_beq_false h87
                        refine SEQ (REGION [0, 1, 2] rfl (RUN0 3 [] [(2, .p 0 0), (3, B false)] ?_ rfl ?_))
                        · as_aux_lemma => kernel_rfl
                        refine ENDOPS (NEXT (RET (PASS trivial (FIN (.tuple #[.agg #[vi 0, vi 0, vi 0, vi 0, vi 0, vi 0], .bool false]) ?_ () ?_ [] ?_))))
                        · as_aux_lemma => kernel_rfl
                        · (have e0 := at5_pad hv2 (by omega) (by decide) (hv0 ▸ hx84); have hz := readI_of (line := line) (l := done) (w := x24) (q := (⟨7, x83, 0, 0, 0, 0⟩ : Req)) (by omega) (by rw [hv1]; simp [readArgs]) hx25 (by rw [iReq, if_neg h27, if_neg h46, if_neg h53, if_neg h63, if_neg h70, if_neg h77, if_pos h81]; rw [← e0]); simp only [RV]; rw [hz]; simp only [optReq]; first | (rw [if_pos ⟨by assumption, by assumption⟩]; rfl) | (rw [if_neg (fun e => (by first | exact absurd e.2 (by assumption) | (have h1 := e.1; exact absurd h1 (by simp only [Bool.not_eq_true]; assumption))))]; rfl))
                        · rfl
                      · -- !((reqLine (⟨7, x83, 0, 0, 0, 0⟩ : Req)) == line) = false
                        have h87 := bh87
                        have h87 := notF h87
                        have h87 := eq_of_beq h87
                        refine SKIP (NEXT (SEQ (REGION [0, 1, 2] rfl (RUN 3 [] [(2, .p 0 0), (3, B true)] [(23, [vi 7, vi x83, vi 0, vi 0, vi 0, vi 0]), (23, [vi 7, vi x83, vi 0, vi 0, vi 0, vi 0])] ?_ rfl ?_))))
                        · as_aux_lemma => kernel_rfl
                        refine ENDOPS (NEXT (RET (FIN (.tuple #[.agg #[vi 7, vi x83, vi 0, vi 0, vi 0, vi 0], .bool true]) ?_ () ?_ [] ?_)))
                        · as_aux_lemma => kernel_rfl
                        · (have e0 := at5_pad hv2 (by omega) (by decide) (hv0 ▸ hx84); have hz := readI_of (line := line) (l := done) (w := x24) (q := (⟨7, x83, 0, 0, 0, 0⟩ : Req)) (by omega) (by rw [hv1]; simp [readArgs]) hx25 (by rw [iReq, if_neg h27, if_neg h46, if_neg h53, if_neg h63, if_neg h70, if_neg h77, if_pos h81]; rw [← e0]); simp only [RV]; rw [hz]; simp only [optReq]; first | (rw [if_pos ⟨by assumption, by assumption⟩]; rfl) | (rw [if_neg (fun e => (by first | exact absurd e.2 (by assumption) | (have h1 := e.1; exact absurd h1 (by simp only [Bool.not_eq_true]; assumption))))]; rfl))
                        · rfl
                  · -- x24 == ([112, 105, 99, 107]) = false
                    have h81 := bh81
                    have h81 := ne_of_beq_false h81
                    refine SKIP (OUTN (NEXT (SEQ (SEQ (REGION [0, 1, 2, 3, 4, 5, 6, 7, 8] rfl (RUN0 1 [1, 2, 3, 4, 5, 6, 7, 8] [(0, .v (.string (bs line))), (2, .p 0 0), (10, .p 1 0), (98, .v (.agg #[vi 0, vi 0, vi 0, vi 0, vi 0, vi 0]))] ?_ rfl ?_))))))
                    · as_aux_lemma => kernel_rfl
                    refine OPC (CALL 29 #[.agg #[vi 0, vi 0, vi 0, vi 0, vi 0, vi 0]] (some 99) ?_ [] [] _ rfl (RV (.bool (reqOk (⟨0, 0, 0, 0, 0, 0⟩ : Req)))) (fun w hw => iReqOk_c w (⟨0, 0, 0, 0, 0, 0⟩ : Req)) (by rintro _ ⟨⟩; exact Nat.le_of_ble_eq_true rfl) ?_)
                    · as_aux_lemma => kernel_rfl
                    rintro ⟨⟩
                    refine RUN0 2 [4, 5, 6, 7, 8] [(0, .v (.string (bs line))), (2, .p 0 0), (10, .p 1 0), (101, B (!(reqOk (⟨0, 0, 0, 0, 0, 0⟩ : Req))))] ?_ rfl ?_
                    · as_aux_lemma => kernel_rfl
                    refine SPLIT (d := 101) (!(reqOk (⟨0, 0, 0, 0, 0, 0⟩ : Req))) ?_ (fun bh88 => ?_) (fun bh88 => ?_)
                    · as_aux_lemma => kernel_rfl
                    · -- !(reqOk (⟨0, 0, 0, 0, 0, 0⟩ : Req)) = true
                      have h88 := bh88
                      have h88 := notT h88
                      refine RUN0 5 [] [(2, .p 0 0), (10, .p 1 0), (106, B true)] ?_ rfl ?_
                      · as_aux_lemma => kernel_rfl
                      refine ENDOPS (NEXT (IFT ?_ ?_))
                      · as_aux_lemma => kernel_rfl
                      refine SEQ (REGION [0, 1, 2] rfl (RUN0 3 [] [(2, .p 0 0), (3, B false)] ?_ rfl ?_))
                      · as_aux_lemma => kernel_rfl
                      refine ENDOPS (NEXT (RET (PASS trivial (FIN (.tuple #[.agg #[vi 0, vi 0, vi 0, vi 0, vi 0, vi 0], .bool false]) ?_ () ?_ [] ?_))))
                      · as_aux_lemma => kernel_rfl
                      · (have hz := readI_of (line := line) (l := done) (w := x24) (q := (⟨0, 0, 0, 0, 0, 0⟩ : Req)) (by omega) (by rw [hv1]; simp [readArgs]) hx25 (by rw [iReq, if_neg h27, if_neg h46, if_neg h53, if_neg h63, if_neg h70, if_neg h77, if_neg h81, noQ]); simp only [RV]; rw [hz]; simp only [optReq]; first | (rw [if_pos ⟨by assumption, by assumption⟩]; rfl) | (rw [if_neg (fun e => (by first | exact absurd e.2 (by assumption) | (have h1 := e.1; exact absurd h1 (by simp only [Bool.not_eq_true]; assumption))))]; rfl))
                      · rfl
                    · -- !(reqOk (⟨0, 0, 0, 0, 0, 0⟩ : Req)) = false
                      have h88 := bh88
                      have h88 := notF h88
                      refine RUN0 1 [5, 6, 7, 8] [(0, .v (.string (bs line))), (2, .p 0 0), (10, .p 1 0), (101, B false), (102, .v (.agg #[vi 0, vi 0, vi 0, vi 0, vi 0, vi 0]))] ?_ rfl ?_
                      · as_aux_lemma => kernel_rfl
                      refine OPC (CALL 30 #[.agg #[vi 0, vi 0, vi 0, vi 0, vi 0, vi 0]] (some 103) ?_ [] [] _ rfl (RV (.string (bs (reqLine (⟨0, 0, 0, 0, 0, 0⟩ : Req))))) (fun w hw => iReqLine_c w (⟨0, 0, 0, 0, 0, 0⟩ : Req) (htab.fr hw.fr)) (by rintro _ ⟨⟩; exact Nat.le_of_ble_eq_true rfl) ?_)
                      · as_aux_lemma => kernel_rfl
                      rintro ⟨⟩
                      have hr89 := reqLine_len (⟨0, 0, 0, 0, 0, 0⟩ : Req)
                      refine RUN0 1 [7, 8] [(2, .p 0 0), (10, .p 1 0), (101, B false), (103, .v (.string (bs (reqLine (⟨0, 0, 0, 0, 0, 0⟩ : Req))))), (104, .v (.string (bs line)))] ?_ rfl ?_
                      · as_aux_lemma => kernel_rfl
                      refine OPC (RUNV (.binOp .neq 9 (.tmp 103) (.tmp 104) 9) 105 4 ?_ (Nat.le_of_ble_eq_true rfl) (.bool (!((reqLine (⟨0, 0, 0, 0, 0, 0⟩ : Req)) == line))) (runs_sneq (a := reqLine (⟨0, 0, 0, 0, 0, 0⟩ : Req)) (b := line) ?_ ?_) ?_)
                      · as_aux_lemma => kernel_rfl
                      · as_aux_lemma => kernel_rfl
                      · as_aux_lemma => kernel_rfl
                      refine RUN0 1 [] [(2, .p 0 0), (10, .p 1 0), (106, B (!((reqLine (⟨0, 0, 0, 0, 0, 0⟩ : Req)) == line)))] ?_ rfl ?_
                      · as_aux_lemma => kernel_rfl
                      refine ENDOPS (NEXT (IF (!((reqLine (⟨0, 0, 0, 0, 0, 0⟩ : Req)) == line)) ?_ (fun bh90 => ?_) (fun bh90 => ?_)))
                      · as_aux_lemma => kernel_rfl
                      · -- !((reqLine (⟨0, 0, 0, 0, 0, 0⟩ : Req)) == line) = true
                        have h90 := bh90
                        have h90 := notT h90
                        have h90 := ne_of_beq_false h90
                        refine SEQ (REGION [0, 1, 2] rfl (RUN0 3 [] [(2, .p 0 0), (3, B false)] ?_ rfl ?_))
                        · as_aux_lemma => kernel_rfl
                        refine ENDOPS (NEXT (RET (PASS trivial (FIN (.tuple #[.agg #[vi 0, vi 0, vi 0, vi 0, vi 0, vi 0], .bool false]) ?_ () ?_ [] ?_))))
                        · as_aux_lemma => kernel_rfl
                        · (have hz := readI_of (line := line) (l := done) (w := x24) (q := (⟨0, 0, 0, 0, 0, 0⟩ : Req)) (by omega) (by rw [hv1]; simp [readArgs]) hx25 (by rw [iReq, if_neg h27, if_neg h46, if_neg h53, if_neg h63, if_neg h70, if_neg h77, if_neg h81, noQ]); simp only [RV]; rw [hz]; simp only [optReq]; first | (rw [if_pos ⟨by assumption, by assumption⟩]; rfl) | (rw [if_neg (fun e => (by first | exact absurd e.2 (by assumption) | (have h1 := e.1; exact absurd h1 (by simp only [Bool.not_eq_true]; assumption))))]; rfl))
                        · rfl
                      · -- !((reqLine (⟨0, 0, 0, 0, 0, 0⟩ : Req)) == line) = false
                        have h90 := bh90
                        have h90 := notF h90
                        have h90 := eq_of_beq h90
                        refine SKIP (NEXT (SEQ (REGION [0, 1, 2] rfl (RUN0 3 [] [(2, .p 0 0), (3, B true)] ?_ rfl ?_))))
                        · as_aux_lemma => kernel_rfl
                        refine ENDOPS (NEXT (RET (FIN (.tuple #[.agg #[vi 0, vi 0, vi 0, vi 0, vi 0, vi 0], .bool true]) ?_ () ?_ [] ?_)))
                        · as_aux_lemma => kernel_rfl
                        · (have hz := readI_of (line := line) (l := done) (w := x24) (q := (⟨0, 0, 0, 0, 0, 0⟩ : Req)) (by omega) (by rw [hv1]; simp [readArgs]) hx25 (by rw [iReq, if_neg h27, if_neg h46, if_neg h53, if_neg h63, if_neg h70, if_neg h77, if_neg h81, noQ]); simp only [RV]; rw [hz]; simp only [optReq]; first | (rw [if_pos ⟨by assumption, by assumption⟩]; rfl) | (rw [if_neg (fun e => (by first | exact absurd e.2 (by assumption) | (have h1 := e.1; exact absurd h1 (by simp only [Bool.not_eq_true]; assumption))))]; rfl))
                        · rfl

theorem sReadReq_c (W : World) (line : List UInt8) (hl : line.length ≤ 1048576) : Spec Tryd.prog W [] 10 #[.string (bs line)] (RV (.tuple #[.agg #[vi ((optReq (readS line)).kind), vi ((optReq (readS line)).id), vi ((optReq (readS line)).cabin), vi ((optReq (readS line)).from'), vi ((optReq (readS line)).size), vi ((optReq (readS line)).tier)], .bool ((readS line).isSome)])) := by
  refine ENTER0 (N := 85) (vs := [.string (bs line)]) Tryd.func10 rfl rfl (Nat.le_of_ble_eq_true rfl) ?_
  refine SEQ (REGION [0, 1] rfl (RUN 2 [] [(0, .v (.string (bs line))), (2, .p 0 0)] [(23, [vi 0, vi 0, vi 0, vi 0, vi 0, vi 0])] ?_ rfl ?_))
  · as_aux_lemma => kernel_rfl
  refine ENDOPS (NEXT (SEQ (SEQ (REGION [0, 1, 2] rfl (RUN0 3 [] [(0, .v (.string (bs line))), (2, .p 0 0), (11, B (decide ((line.length : Int) > 80)))] ?_ rfl ?_)))))
  · as_aux_lemma => kernel_rfl
  refine ENDOPS (NEXT (IF (decide ((line.length : Int) > 80)) ?_ (fun bh1 => ?_) (fun bh1 => ?_)))
  · as_aux_lemma => kernel_rfl
  · -- decide ((line.length : Int) > 80) = true
    have h1 := bh1
    have h1 := of_decide_eq_true h1
    refine SEQ (REGION [0, 1, 2] rfl (RUN0 3 [] [(2, .p 0 0), (3, B false)] ?_ rfl ?_))
    · as_aux_lemma => kernel_rfl
    refine ENDOPS (NEXT (RET (PASS trivial (FIN (.tuple #[.agg #[vi 0, vi 0, vi 0, vi 0, vi 0, vi 0], .bool false]) ?_ () ?_ [] ?_))))
    · as_aux_lemma => kernel_rfl
    · (first | (rw [readS_long (by omega)]; rfl) | (rw [readS_bad (by have h9 : (readArgs ((parts line 32).drop 1)).isSome = false := (by assumption); simpa using h9)]; rfl))
    · rfl
  · -- decide ((line.length : Int) > 80) = false
    have h1 := bh1
    have h1 := of_decide_eq_false h1
    refine SKIP (NEXT (SEQ (REGION [0, 1, 2] rfl (RUN0 1 [1, 2] [(0, .v (.string (bs line))), (2, .p 0 0), (13, .v (.string (bs line)))] ?_ rfl ?_))))
    · as_aux_lemma => kernel_rfl
    refine OPC (CALL 9 #[.string (bs line), .int .u8 32] (some 14) ?_ [] [] _ rfl (⟨HH, fun p => .slice p.1 ((parts line 32).length) p.2, fun p => [slA 9 strL (.slice p.1 (parts line 32).length p.2) (parts line 32)]⟩) (fun w hw => sParts_c w line 32 (by first | assumption | omega)) (by rintro _ ⟨⟩; exact Nat.le_of_ble_eq_true rfl) ?_)
    · as_aux_lemma => kernel_rfl
    rintro ⟨a2, c3⟩
    have hr4 := parts_len line 32
    refine RUN0 1 [] [(0, .v (.string (bs line))), (2, .p 0 0), (4, .v (.slice a2 ((parts line 32).length) c3))] ?_ rfl ?_
    · as_aux_lemma => kernel_rfl
    refine ENDOPS (NEXT (SEQ (REGION [0, 1, 2, 3, 4, 5, 6, 7] rfl (RUN0 1 [1, 2, 3, 4, 5, 6, 7] [(0, .v (.string (bs line))), (2, .p 0 0), (4, .v (.slice a2 ((parts line 32).length) c3)), (16, .v (.slice a2 ((parts line 32).length) c3))] ?_ rfl ?_))))
    · as_aux_lemma => kernel_rfl
    refine FACT (((parts line 32).length) ≤ c3) (fun w hw => SlO.capE (hw.own 0 rfl)) (fun hcap5 => ?_)
    refine FACT (((parts line 32).length) = (parts line 32).length) (fun w hw => (SlO.lenE (hw.own 0 rfl)).1) (fun hln6 => ?_)
    refine OPC (CUTL 32 (.tmp 16) (.const (vi 1)) 17 32 ?_ (Nat.le_of_ble_eq_true rfl) a2 ((parts line 32).length) c3 .i64 1 ?_ ?_ 9 strL (parts line 32) ?_ ?_ (by omega) (by first | omega | (simp only [List.length_append, List.length_cons, List.length_nil, List.length_take, List.length_drop] at *; omega)) hln6 hcap5 (fun a7 hsh8 => ?_))
    · as_aux_lemma => kernel_rfl
    · as_aux_lemma => kernel_rfl
    · as_aux_lemma => kernel_rfl
    · as_aux_lemma => kernel_rfl
    · as_aux_lemma => kernel_rfl
    have hsh8 : ∀ w, Rd strL w a2 (parts line 32) → Rd strL w a7 ((parts line 32).drop 1) := hsh8
    have hln9 : ((parts line 32).drop 1).length = ((parts line 32).length) - 1 := by first | (simp; done) | (simp; omega)
    refine CAST (d := 17) (.slice a7 (((parts line 32).length) - 1) (c3 - 1)) (.slice a7 (((parts line 32).drop 1).length) (c3 - 1)) ?_ (by rw [hln9]) ?_
    · as_aux_lemma => kernel_rfl
    refine OPC (CALL 11 #[.slice a7 (((parts line 32).drop 1).length) (c3 - 1)] (some 18) ?_ [] [] _ rfl (⟨HH, fun p => .tuple #[.slice p.1 (((readArgs ((parts line 32).drop 1)).getD []).length) p.2, .bool ((readArgs ((parts line 32).drop 1)).isSome)], fun p => [slA 3 intL (.slice p.1 ((readArgs ((parts line 32).drop 1)).getD []).length p.2) ((readArgs ((parts line 32).drop 1)).getD [])]⟩) (fun w hw => l29Nums_c w ((parts line 32).drop 1) a7 (c3 - 1) (hsh8 _ (Rd.own (hw.own 0 rfl))) (by first | omega | (simp; omega))) (by rintro _ ⟨⟩; exact Nat.le_of_ble_eq_true rfl) ?_)
    · as_aux_lemma => kernel_rfl
    rintro ⟨a10, c11⟩
    refine RUN0 5 [] [(0, .v (.string (bs line))), (2, .p 0 0), (4, .v (.slice a2 ((parts line 32).length) c3)), (5, .v (.slice a10 (((readArgs ((parts line 32).drop 1)).getD []).length) c11)), (6, B ((readArgs ((parts line 32).drop 1)).isSome))] ?_ rfl ?_
    · as_aux_lemma => kernel_rfl
    refine ENDOPS (NEXT (SEQ (SEQ (REGION [0, 1] rfl (RUN0 2 [] [(0, .v (.string (bs line))), (2, .p 0 0), (4, .v (.slice a2 ((parts line 32).length) c3)), (5, .v (.slice a10 (((readArgs ((parts line 32).drop 1)).getD []).length) c11)), (22, B (!((readArgs ((parts line 32).drop 1)).isSome)))] ?_ rfl ?_)))))
    · as_aux_lemma => kernel_rfl
    refine ENDOPS (NEXT (IF (!((readArgs ((parts line 32).drop 1)).isSome)) ?_ (fun bh12 => ?_) (fun bh12 => ?_)))
    · as_aux_lemma => kernel_rfl
    · -- !((readArgs ((parts line 32).drop 1)).isSome) = true
      have h12 := bh12
      have h12 := notT h12
      refine SEQ (REGION [0, 1, 2] rfl (RUN0 3 [] [(2, .p 0 0), (3, B false)] ?_ rfl ?_))
      · as_aux_lemma => kernel_rfl
      refine ENDOPS (NEXT (RET (PASS trivial (FIN (.tuple #[.agg #[vi 0, vi 0, vi 0, vi 0, vi 0, vi 0], .bool false]) ?_ () ?_ [] ?_))))
      · as_aux_lemma => kernel_rfl
      · (first | (rw [readS_long (by omega)]; rfl) | (rw [readS_bad (by have h9 : (readArgs ((parts line 32).drop 1)).isSome = false := (by assumption); simpa using h9)]; rfl))
      · rfl
    · -- !((readArgs ((parts line 32).drop 1)).isSome) = false
      have h12 := bh12
      have h12 := notF h12
      obtain ⟨l9, hl9⟩ := Option.isSome_iff_exists.1 h12; have hgd : (readArgs ((parts line 32).drop 1)).getD [] = l9 := (by rw [hl9]; rfl)
      refine SKIP (NEXT (SEQ (REGION [0, 1, 2] rfl (RUN 3 [] [(0, .v (.string (bs line))), (2, .p 0 0), (4, .v (.slice a2 ((parts line 32).length) c3)), (5, .v (.slice a10 (((readArgs ((parts line 32).drop 1)).getD []).length) c11)), (7, .p 1 0)] [(23, [vi 0, vi 0, vi 0, vi 0, vi 0, vi 0]), (23, [vi 0, vi 0, vi 0, vi 0, vi 0, vi 0])] ?_ rfl ?_))))
      · as_aux_lemma => kernel_rfl
      refine ENDOPS (NEXT (SEQ (SEQ (REGION [0] rfl (RUN0 1 [] [(0, .v (.string (bs line))), (2, .p 0 0), (4, .v (.slice a2 ((parts line 32).length) c3)), (5, .v (.slice a10 (((readArgs ((parts line 32).drop 1)).getD []).length) c11)), (7, .p 1 0), (8, I 1)] ?_ rfl ?_)))))
      · as_aux_lemma => kernel_rfl
      refine ENDOPS (NEXT (BLOCK (FACT (a2.isSome = true) (fun w hw => SlO.isS (hw.own 0 rfl) (by omega)) (fun hs13 => ?_))))
      obtain ⟨w0, hw0⟩ : ∃ y, (parts line 32)[0]? = some y := ⟨_, List.getElem?_eq_getElem (by omega)⟩
      refine LOOP (ι := Nat × Nat × Int) (fun j => [(0, .v (.string (bs line))), (2, .p 0 0), (4, .v (.slice a2 ((parts line 32).length) c3)), (5, .v (.slice a10 (((readArgs ((parts line 32).drop 1)).getD []).length) c11)), (7, .p 1 0), (8, I (j.2.1 : Int))]) (fun j => [(23, [vi 0, vi 0, vi 0, vi 0, vi 0, vi 0]), (23, [vi j.2.2, vi 0, vi 0, vi 0, vi 0, vi 0])]) (fun j => [slA 9 strL (.slice a2 (parts line 32).length c3) (parts line 32), slA 3 intL (.slice a10 ((readArgs ((parts line 32).drop 1)).getD []).length c11) ((readArgs ((parts line 32).drop 1)).getD [])]) (fun j => j.2.1 + j.1 = 8 ∧ kindGo w0 7 1 0 = kindGo w0 j.1 (j.2.1 : Int) j.2.2 ∧ 1 ≤ j.2.1) (fun j => j.1) (7, 1, 0) [0, 2, 4, 5, 7, 8] ⟨rfl, rfl, by decide⟩ ?_ rfl rfl ?_
      · as_aux_lemma => kernel_rfl
      rintro ⟨m, kk, z⟩ ⟨hkm, hv, hk1⟩
      dsimp only at hkm hv hk1
      refine SEQ (SEQ (REGION [0, 1] rfl (RUN0 2 [] [(0, .v (.string (bs line))), (2, .p 0 0), (4, .v (.slice a2 ((parts line 32).length) c3)), (5, .v (.slice a10 (((readArgs ((parts line 32).drop 1)).getD []).length) c11)), (7, .p 1 0), (8, I (kk : Int)), (26, B (decide ((kk : Int) ≤ 7)))] ?_ rfl ?_)))
      · as_aux_lemma => kernel_rfl
      refine ENDOPS (NEXT (IF (decide ((kk : Int) ≤ 7)) ?_ (fun bh14 => ?_) (fun bh14 => ?_)))
      · as_aux_lemma => kernel_rfl
      · -- decide ((kk : Int) ≤ 7) = true
        have h14 := bh14
        have h14 := of_decide_eq_true h14
        obtain ⟨m1, rfl⟩ : ∃ z, m = z + 1 := ⟨m - 1, by omega⟩
        refine SKIP (NEXT (SEQ (BLOCK (SEQ (REGIONQ ?_ ?_ ?_)))))
        · as_aux_lemma => kernel_rfl
        · as_aux_lemma => kernel_rfl
        refine QRUN 1 0 1 [(0, .v (.string (bs line))), (2, .p 0 0), (4, .v (.slice a2 ((parts line 32).length) c3)), (5, .v (.slice a10 (((readArgs ((parts line 32).drop 1)).getD []).length) c11)), (7, .p 1 0), (8, I (kk : Int)), (29, .v (.slice a2 ((parts line 32).length) c3))] ?_ rfl ?_
        · as_aux_lemma => kernel_rfl
        refine QINDEX 32 (.tmp 29) (.const (vi 0)) 30 0 ?_ (Nat.le_of_ble_eq_true rfl) a2 ((parts line 32).length) c3 .i64 0 9 1 ?_ ?_ ?_ ?_ hs13 (by omega) (by omega) ?_
        · as_aux_lemma => kernel_rfl
        · as_aux_lemma => kernel_rfl
        · as_aux_lemma => kernel_rfl
        · as_aux_lemma => kernel_rfl
        · as_aux_lemma => kernel_rfl
        refine QLOADE 9 (.tmp 30) 31 9 ?_ (Nat.le_of_ble_eq_true rfl) a2 (0 * 1) 0 [.string (bs w0)] (.string (bs w0)) ?_ (fun w hw => (Rd.own (hw.own 0 rfl)).flat hw0) ?_ ?_
        · as_aux_lemma => kernel_rfl
        · as_aux_lemma => kernel_rfl
        · as_aux_lemma => kernel_rfl
        refine QRUN 1 3 4 [(0, .v (.string (bs line))), (2, .p 0 0), (4, .v (.slice a2 ((parts line 32).length) c3)), (5, .v (.slice a10 (((readArgs ((parts line 32).drop 1)).getD []).length) c11)), (7, .p 1 0), (8, I (kk : Int)), (31, .v (.string (bs w0))), (32, I (kk : Int))] ?_ rfl ?_
        · as_aux_lemma => kernel_rfl
        have hr15 := reqWord_len (kk : Int)
        refine QCALL 23 #[vi (kk : Int)] (some 33) ?_ (.string (bs (reqWord (kk : Int)))) (fun w hw => l29Word_c w (kk : Int) (by omega)) (by rintro _ ⟨⟩; exact Nat.le_of_ble_eq_true rfl) ?_
        · as_aux_lemma => kernel_rfl
        refine QRUNV (.binOp .eql 9 (.tmp 31) (.tmp 33) 9) 34 4 ?_ (Nat.le_of_ble_eq_true rfl) (.bool (w0 == (reqWord (kk : Int)))) (runs_seql (a := w0) (b := reqWord (kk : Int)) ?_ ?_) ?_
        · as_aux_lemma => kernel_rfl
        · as_aux_lemma => kernel_rfl
        · as_aux_lemma => kernel_rfl
        refine QEND rfl (NEXT (IF (w0 == (reqWord (kk : Int))) ?_ (fun bh16 => ?_) (fun bh16 => ?_)))
        · as_aux_lemma => kernel_rfl
        · -- w0 == (reqWord (kk : Int)) = true
          have h16 := bh16
          have h16 := eq_of_beq h16
          refine REGION [0, 1, 2] rfl (RUN 3 [] [(0, .v (.string (bs line))), (2, .p 0 0), (4, .v (.slice a2 ((parts line 32).length) c3)), (5, .v (.slice a10 (((readArgs ((parts line 32).drop 1)).getD []).length) c11)), (7, .p 1 0), (8, I (kk : Int))] [(23, [vi 0, vi 0, vi 0, vi 0, vi 0, vi 0]), (23, [vi (kk : Int), vi 0, vi 0, vi 0, vi 0, vi 0])] ?_ rfl ?_)
          · as_aux_lemma => kernel_rfl
          refine ENDOPS (OUTN (NEXT (REGION [0, 1, 2] rfl (RUN0 2 [2] [(0, .v (.string (bs line))), (2, .p 0 0), (4, .v (.slice a2 ((parts line 32).length) c3)), (5, .v (.slice a10 (((readArgs ((parts line 32).drop 1)).getD []).length) c11)), (7, .p 1 0), (28, I (wr ((kk : Int) + 1)))] ?_ rfl ?_))))
          · as_aux_lemma => kernel_rfl
          refine CAST (d := 28) (vi (wr ((kk : Int) + 1))) (vi ((kk + 1 : Nat) : Int)) ?_ (vi_cast (by omega) (by omega)) ?_
          · as_aux_lemma => kernel_rfl
          refine RUN0 1 [] [(0, .v (.string (bs line))), (2, .p 0 0), (4, .v (.slice a2 ((parts line 32).length) c3)), (5, .v (.slice a10 (((readArgs ((parts line 32).drop 1)).getD []).length) c11)), (7, .p 1 0), (8, I ((kk + 1 : Nat) : Int))] ?_ rfl ?_
          · as_aux_lemma => kernel_rfl
          refine ENDOPS (BACK (m1, kk + 1, (kk : Int)) [0, 2, 4, 5, 7, 8] 2 [0, 0] _ ⟨by dsimp only; omega, hv.trans (by simp only [kindGo]; first | (rw [if_pos (by assumption)]; rfl) | (rw [if_neg (by assumption)]; rfl)), by dsimp only; omega⟩ (by dsimp only; omega) ?_ rfl rfl rfl)
          · as_aux_lemma => kernel_rfl
        · -- w0 == (reqWord (kk : Int)) = false
          have h16 := bh16
          have h16 := ne_of_beq_false h16
          refine SKIP (OUTN (NEXT (REGION [0, 1, 2] rfl (RUN0 2 [2] [(0, .v (.string (bs line))), (2, .p 0 0), (4, .v (.slice a2 ((parts line 32).length) c3)), (5, .v (.slice a10 (((readArgs ((parts line 32).drop 1)).getD []).length) c11)), (7, .p 1 0), (28, I (wr ((kk : Int) + 1)))] ?_ rfl ?_))))
          · as_aux_lemma => kernel_rfl
          refine CAST (d := 28) (vi (wr ((kk : Int) + 1))) (vi ((kk + 1 : Nat) : Int)) ?_ (vi_cast (by omega) (by omega)) ?_
          · as_aux_lemma => kernel_rfl
          refine RUN0 1 [] [(0, .v (.string (bs line))), (2, .p 0 0), (4, .v (.slice a2 ((parts line 32).length) c3)), (5, .v (.slice a10 (((readArgs ((parts line 32).drop 1)).getD []).length) c11)), (7, .p 1 0), (8, I ((kk + 1 : Nat) : Int))] ?_ rfl ?_
          · as_aux_lemma => kernel_rfl
          refine ENDOPS (BACK (m1, kk + 1, z) [0, 2, 4, 5, 7, 8] 2 [0, 0] _ ⟨by dsimp only; omega, hv.trans (by simp only [kindGo]; first | (rw [if_pos (by assumption)]; rfl) | (rw [if_neg (by assumption)]; rfl)), by dsimp only; omega⟩ (by dsimp only; omega) ?_ rfl rfl rfl)
          · as_aux_lemma => kernel_rfl
      · -- decide ((kk : Int) ≤ 7) = false
        have h14 := bh14
        have h14 := of_decide_eq_false h14
        obtain rfl : m = 0 := by omega
        refine EXIT (PASS trivial (PASS trivial (OUT (NEXT (SEQ (SEQ (REGION [0, 1] rfl (RUN0 2 [] [(0, .v (.string (bs line))), (2, .p 0 0), (5, .v (.slice a10 (((readArgs ((parts line 32).drop 1)).getD []).length) c11)), (7, .p 1 0), (38, I ((((readArgs ((parts line 32).drop 1)).getD []).length : Nat) : Int))] ?_ rfl ?_))))))))
        · as_aux_lemma => kernel_rfl
        refine ENDOPS (NEXT (BLOCK (SEQ (REGION [0, 1] rfl (RUN0 2 [] [(0, .v (.string (bs line))), (2, .p 0 0), (5, .v (.slice a10 (((readArgs ((parts line 32).drop 1)).getD []).length) c11)), (7, .p 1 0), (38, I ((((readArgs ((parts line 32).drop 1)).getD []).length : Nat) : Int)), (39, B (((((readArgs ((parts line 32).drop 1)).getD []).length : Nat) : Int) == 1))] ?_ rfl ?_)))))
        · as_aux_lemma => kernel_rfl
        refine ENDOPS (NEXT (IF (((((readArgs ((parts line 32).drop 1)).getD []).length : Nat) : Int) == 1) ?_ (fun bh17 => ?_) (fun bh17 => ?_)))
        · as_aux_lemma => kernel_rfl
        · -- ((((readArgs ((parts line 32).drop 1)).getD []).length : Nat) : Int) == 1 = true
          have h17 := bh17
          have h17 := eq_of_beq h17
          refine REGION [0, 1, 2, 3, 4] rfl (RUN0 1 [1, 2, 3, 4] [(0, .v (.string (bs line))), (2, .p 0 0), (7, .p 1 0), (41, .v (.slice a10 (((readArgs ((parts line 32).drop 1)).getD []).length) c11))] ?_ rfl ?_)
          · as_aux_lemma => kernel_rfl
          obtain ⟨x18, hx19⟩ : ∃ y, ((readArgs ((parts line 32).drop 1)).getD [])[0]? = some y := ⟨_, List.getElem?_eq_getElem (by omega)⟩
          refine FACT (a10.isSome = true) (fun w hw => SlO.isS (hw.own 1 rfl) (by omega)) (fun hs20 => ?_)
          refine OPC (INDEX 24 (.tmp 41) (.const (vi 0)) 42 0 ?_ (Nat.le_of_ble_eq_true rfl) a10 (((readArgs ((parts line 32).drop 1)).getD []).length) c11 .i64 0 3 1 ?_ ?_ ?_ ?_ hs20 (by omega) (by omega) ?_)
          · as_aux_lemma => kernel_rfl
          · as_aux_lemma => kernel_rfl
          · as_aux_lemma => kernel_rfl
          · as_aux_lemma => kernel_rfl
          · as_aux_lemma => kernel_rfl
          refine OPC (LOADE 3 (.tmp 42) 43 3 ?_ (Nat.le_of_ble_eq_true rfl) a10 (0 * 1) 0 [vi x18] (vi x18) ?_ (fun w hw => (Rd.own (hw.own 1 rfl)).flat hx19) ?_ ?_)
          · as_aux_lemma => kernel_rfl
          · as_aux_lemma => kernel_rfl
          · as_aux_lemma => kernel_rfl
          refine RUN 2 [] [(0, .v (.string (bs line))), (2, .p 0 0), (7, .p 1 0)] [(23, [vi 0, vi 0, vi 0, vi 0, vi 0, vi 0]), (23, [vi z, vi x18, vi 0, vi 0, vi 0, vi 0])] ?_ rfl ?_
          · as_aux_lemma => kernel_rfl
          refine ENDOPS (OUTN (NEXT (SEQ (SEQ (REGION [0, 1, 2, 3, 4, 5, 6, 7] rfl (RUN0 1 [1, 2, 3, 4, 5, 6, 7] [(0, .v (.string (bs line))), (2, .p 0 0), (7, .p 1 0), (75, .v (.agg #[vi z, vi x18, vi 0, vi 0, vi 0, vi 0]))] ?_ rfl ?_))))))
          · as_aux_lemma => kernel_rfl
          refine OPC (CALL 24 #[.agg #[vi z, vi x18, vi 0, vi 0, vi 0, vi 0]] (some 76) ?_ [] [] _ rfl (RV (.string (bs (reqLine (⟨z, x18, 0, 0, 0, 0⟩ : Req))))) (fun w hw => sReqLine_c w (⟨z, x18, 0, 0, 0, 0⟩ : Req)) (by rintro _ ⟨⟩; exact Nat.le_of_ble_eq_true rfl) ?_)
          · as_aux_lemma => kernel_rfl
          rintro ⟨⟩
          have hr21 := reqLine_len (⟨z, x18, 0, 0, 0, 0⟩ : Req)
          refine RUN0 1 [3, 4, 5, 6, 7] [(0, .v (.string (bs line))), (2, .p 0 0), (7, .p 1 0), (76, .v (.string (bs (reqLine (⟨z, x18, 0, 0, 0, 0⟩ : Req))))), (77, .v (.string (bs line)))] ?_ rfl ?_
          · as_aux_lemma => kernel_rfl
          refine OPC (RUNV (.binOp .neq 9 (.tmp 76) (.tmp 77) 9) 78 4 ?_ (Nat.le_of_ble_eq_true rfl) (.bool (!((reqLine (⟨z, x18, 0, 0, 0, 0⟩ : Req)) == line))) (runs_sneq (a := reqLine (⟨z, x18, 0, 0, 0, 0⟩ : Req)) (b := line) ?_ ?_) ?_)
          · as_aux_lemma => kernel_rfl
          · as_aux_lemma => kernel_rfl
          · as_aux_lemma => kernel_rfl
          refine RUN0 1 [5, 6, 7] [(0, .v (.string (bs line))), (2, .p 0 0), (7, .p 1 0), (79, B (!((reqLine (⟨z, x18, 0, 0, 0, 0⟩ : Req)) == line)))] ?_ rfl ?_
          · as_aux_lemma => kernel_rfl
          refine SPLIT (d := 79) (!((reqLine (⟨z, x18, 0, 0, 0, 0⟩ : Req)) == line)) ?_ (fun bh22 => ?_) (fun bh22 => ?_)
          · as_aux_lemma => kernel_rfl
          · -- !((reqLine (⟨z, x18, 0, 0, 0, 0⟩ : Req)) == line) = true
            have h22 := bh22
            have h22 := notT h22
            have h22 := ne_of_beq_false h22
            refine RUN0 3 [] [(2, .p 0 0), (7, .p 1 0), (82, B true)] ?_ rfl ?_
            · as_aux_lemma => kernel_rfl
            refine ENDOPS (NEXT (IFT ?_ ?_))
            · as_aux_lemma => kernel_rfl
            refine SEQ (REGION [0, 1, 2] rfl (RUN0 3 [] [(2, .p 0 0), (3, B false)] ?_ rfl ?_))
            · as_aux_lemma => kernel_rfl
            refine ENDOPS (NEXT (RET (PASS trivial (FIN (.tuple #[.agg #[vi 0, vi 0, vi 0, vi 0, vi 0, vi 0], .bool false]) ?_ () ?_ [] ?_))))
            · as_aux_lemma => kernel_rfl
            · (have e0 := at5_of (hgd ▸ hx19); have hv9 : kindGo w0 7 1 0 = z := hv; have hlq : ((readArgs ((parts line 32).drop 1)).getD []).length = l9.length := (by rw [hgd]); have hz := readS_of (line := line) (l := l9) (w := w0) (q := (⟨z, x18, 0, 0, 0, 0⟩ : Req)) (by omega) hl9 hw0 (by first | (rw [sReq, if_pos (by omega), hv9, ← e0]; done) | (rw [sReq, if_neg (by omega), if_pos (by omega), hv9, ← e0]; done) | (rw [sReq, if_neg (by omega), if_neg (by omega), if_pos (by omega), hv9, ← e0]; done) | (rw [sReq, if_neg (by omega), if_neg (by omega), if_neg (by omega), hv9, ← e0]; done)); simp only [RV]; rw [hz]; simp only [optReq]; first | (rw [if_pos ⟨by assumption, by assumption⟩]; rfl) | (rw [if_neg (fun e => (by first | exact absurd e.1 (by assumption) | exact absurd (by assumption) e.2))]; rfl))
            · rfl
          · -- !((reqLine (⟨z, x18, 0, 0, 0, 0⟩ : Req)) == line) = false
            have h22 := bh22
            have h22 := notF h22
            have h22 := eq_of_beq h22
            refine RUN0 1 [6, 7] [(2, .p 0 0), (7, .p 1 0), (79, B false), (80, .v (.string (bs line)))] ?_ rfl ?_
            · as_aux_lemma => kernel_rfl
            refine OPC (RUNV (.binOp .eql 9 (.tmp 80) (.const (.string (bs ([])))) 9) 81 4 ?_ (Nat.le_of_ble_eq_true rfl) (.bool (line == ([]))) (runs_seql (a := line) (b := []) ?_ ?_) ?_)
            · as_aux_lemma => kernel_rfl
            · as_aux_lemma => kernel_rfl
            · as_aux_lemma => kernel_rfl
            refine RUN0 1 [] [(2, .p 0 0), (7, .p 1 0), (82, B (line == ([])))] ?_ rfl ?_
            · as_aux_lemma => kernel_rfl
            refine ENDOPS (NEXT (IF (line == ([])) ?_ (fun bh23 => ?_) (fun bh23 => ?_)))
            · as_aux_lemma => kernel_rfl
            · -- line == ([]) = true
              have h23 := bh23
              have h23 := eq_of_beq h23
              refine SEQ (REGION [0, 1, 2] rfl (RUN0 3 [] [(2, .p 0 0), (3, B false)] ?_ rfl ?_))
              · as_aux_lemma => kernel_rfl
              refine ENDOPS (NEXT (RET (PASS trivial (FIN (.tuple #[.agg #[vi 0, vi 0, vi 0, vi 0, vi 0, vi 0], .bool false]) ?_ () ?_ [] ?_))))
              · as_aux_lemma => kernel_rfl
              · (have e0 := at5_of (hgd ▸ hx19); have hv9 : kindGo w0 7 1 0 = z := hv; have hlq : ((readArgs ((parts line 32).drop 1)).getD []).length = l9.length := (by rw [hgd]); have hz := readS_of (line := line) (l := l9) (w := w0) (q := (⟨z, x18, 0, 0, 0, 0⟩ : Req)) (by omega) hl9 hw0 (by first | (rw [sReq, if_pos (by omega), hv9, ← e0]; done) | (rw [sReq, if_neg (by omega), if_pos (by omega), hv9, ← e0]; done) | (rw [sReq, if_neg (by omega), if_neg (by omega), if_pos (by omega), hv9, ← e0]; done) | (rw [sReq, if_neg (by omega), if_neg (by omega), if_neg (by omega), hv9, ← e0]; done)); simp only [RV]; rw [hz]; simp only [optReq]; first | (rw [if_pos ⟨by assumption, by assumption⟩]; rfl) | (rw [if_neg (fun e => (by first | exact absurd e.1 (by assumption) | exact absurd (by assumption) e.2))]; rfl))
              · rfl
            · -- line == ([]) = false
              have h23 := bh23
              have h23 := ne_of_beq_false h23
              refine SKIP (NEXT (SEQ (REGION [0, 1, 2] rfl (RUN 3 [] [(2, .p 0 0), (3, B true)] [(23, [vi z, vi x18, vi 0, vi 0, vi 0, vi 0]), (23, [vi z, vi x18, vi 0, vi 0, vi 0, vi 0])] ?_ rfl ?_))))
              · as_aux_lemma => kernel_rfl
              refine ENDOPS (NEXT (RET (FIN (.tuple #[.agg #[vi z, vi x18, vi 0, vi 0, vi 0, vi 0], .bool true]) ?_ () ?_ [] ?_)))
              · as_aux_lemma => kernel_rfl
              · (have e0 := at5_of (hgd ▸ hx19); have hv9 : kindGo w0 7 1 0 = z := hv; have hlq : ((readArgs ((parts line 32).drop 1)).getD []).length = l9.length := (by rw [hgd]); have hz := readS_of (line := line) (l := l9) (w := w0) (q := (⟨z, x18, 0, 0, 0, 0⟩ : Req)) (by omega) hl9 hw0 (by first | (rw [sReq, if_pos (by omega), hv9, ← e0]; done) | (rw [sReq, if_neg (by omega), if_pos (by omega), hv9, ← e0]; done) | (rw [sReq, if_neg (by omega), if_neg (by omega), if_pos (by omega), hv9, ← e0]; done) | (rw [sReq, if_neg (by omega), if_neg (by omega), if_neg (by omega), hv9, ← e0]; done)); simp only [RV]; rw [hz]; simp only [optReq]; first | (rw [if_pos ⟨by assumption, by assumption⟩]; rfl) | (rw [if_neg (fun e => (by first | exact absurd e.1 (by assumption) | exact absurd (by assumption) e.2))]; rfl))
              · rfl
        · -- ((((readArgs ((parts line 32).drop 1)).getD []).length : Nat) : Int) == 1 = false
          have h17 := bh17
          have h17 := ne_of_beq_false h17
          refine SEQ (REGION [0, 1] rfl (RUN0 2 [] [(0, .v (.string (bs line))), (2, .p 0 0), (5, .v (.slice a10 (((readArgs ((parts line 32).drop 1)).getD []).length) c11)), (7, .p 1 0), (38, I ((((readArgs ((parts line 32).drop 1)).getD []).length : Nat) : Int)), (45, B (((((readArgs ((parts line 32).drop 1)).getD []).length : Nat) : Int) == 2))] ?_ rfl ?_))
          · as_aux_lemma => kernel_rfl
          refine ENDOPS (NEXT (IF (((((readArgs ((parts line 32).drop 1)).getD []).length : Nat) : Int) == 2) ?_ (fun bh24 => ?_) (fun bh24 => ?_)))
          · as_aux_lemma => kernel_rfl
          · -- ((((readArgs ((parts line 32).drop 1)).getD []).length : Nat) : Int) == 2 = true
            have h24 := bh24
            have h24 := eq_of_beq h24
            refine SEQ (REGION [0, 1, 2, 3, 4] rfl (RUN0 1 [1, 2, 3, 4] [(0, .v (.string (bs line))), (2, .p 0 0), (5, .v (.slice a10 (((readArgs ((parts line 32).drop 1)).getD []).length) c11)), (7, .p 1 0), (47, .v (.slice a10 (((readArgs ((parts line 32).drop 1)).getD []).length) c11))] ?_ rfl ?_))
            · as_aux_lemma => kernel_rfl
            obtain ⟨x25, hx26⟩ : ∃ y, ((readArgs ((parts line 32).drop 1)).getD [])[0]? = some y := ⟨_, List.getElem?_eq_getElem (by omega)⟩
            refine FACT (a10.isSome = true) (fun w hw => SlO.isS (hw.own 1 rfl) (by omega)) (fun hs27 => ?_)
            refine OPC (INDEX 24 (.tmp 47) (.const (vi 0)) 48 0 ?_ (Nat.le_of_ble_eq_true rfl) a10 (((readArgs ((parts line 32).drop 1)).getD []).length) c11 .i64 0 3 1 ?_ ?_ ?_ ?_ hs27 (by omega) (by omega) ?_)
            · as_aux_lemma => kernel_rfl
            · as_aux_lemma => kernel_rfl
            · as_aux_lemma => kernel_rfl
            · as_aux_lemma => kernel_rfl
            · as_aux_lemma => kernel_rfl
            refine OPC (LOADE 3 (.tmp 48) 49 3 ?_ (Nat.le_of_ble_eq_true rfl) a10 (0 * 1) 0 [vi x25] (vi x25) ?_ (fun w hw => (Rd.own (hw.own 1 rfl)).flat hx26) ?_ ?_)
            · as_aux_lemma => kernel_rfl
            · as_aux_lemma => kernel_rfl
            · as_aux_lemma => kernel_rfl
            refine RUN 2 [] [(0, .v (.string (bs line))), (2, .p 0 0), (5, .v (.slice a10 (((readArgs ((parts line 32).drop 1)).getD []).length) c11)), (7, .p 1 0)] [(23, [vi 0, vi 0, vi 0, vi 0, vi 0, vi 0]), (23, [vi z, vi 0, vi x25, vi 0, vi 0, vi 0])] ?_ rfl ?_
            · as_aux_lemma => kernel_rfl
            refine ENDOPS (NEXT (REGION [0, 1, 2, 3, 4] rfl (RUN0 1 [1, 2, 3, 4] [(0, .v (.string (bs line))), (2, .p 0 0), (7, .p 1 0), (51, .v (.slice a10 (((readArgs ((parts line 32).drop 1)).getD []).length) c11))] ?_ rfl ?_)))
            · as_aux_lemma => kernel_rfl
            obtain ⟨x28, hx29⟩ : ∃ y, ((readArgs ((parts line 32).drop 1)).getD [])[1]? = some y := ⟨_, List.getElem?_eq_getElem (by omega)⟩
            refine FACT (a10.isSome = true) (fun w hw => SlO.isS (hw.own 1 rfl) (by omega)) (fun hs30 => ?_)
            refine OPC (INDEX 24 (.tmp 51) (.const (vi 1)) 52 0 ?_ (Nat.le_of_ble_eq_true rfl) a10 (((readArgs ((parts line 32).drop 1)).getD []).length) c11 .i64 1 3 1 ?_ ?_ ?_ ?_ hs30 (by omega) (by omega) ?_)
            · as_aux_lemma => kernel_rfl
            · as_aux_lemma => kernel_rfl
            · as_aux_lemma => kernel_rfl
            · as_aux_lemma => kernel_rfl
            · as_aux_lemma => kernel_rfl
            refine OPC (LOADE 3 (.tmp 52) 53 3 ?_ (Nat.le_of_ble_eq_true rfl) a10 (1 * 1) 0 [vi x28] (vi x28) ?_ (fun w hw => (Rd.own (hw.own 1 rfl)).flat hx29) ?_ ?_)
            · as_aux_lemma => kernel_rfl
            · as_aux_lemma => kernel_rfl
            · as_aux_lemma => kernel_rfl
            refine RUN 2 [] [(0, .v (.string (bs line))), (2, .p 0 0), (7, .p 1 0)] [(23, [vi 0, vi 0, vi 0, vi 0, vi 0, vi 0]), (23, [vi z, vi 0, vi x25, vi 0, vi x28, vi 0])] ?_ rfl ?_
            · as_aux_lemma => kernel_rfl
            refine ENDOPS (OUTN (NEXT (SEQ (SEQ (REGION [0, 1, 2, 3, 4, 5, 6, 7] rfl (RUN0 1 [1, 2, 3, 4, 5, 6, 7] [(0, .v (.string (bs line))), (2, .p 0 0), (7, .p 1 0), (75, .v (.agg #[vi z, vi 0, vi x25, vi 0, vi x28, vi 0]))] ?_ rfl ?_))))))
            · as_aux_lemma => kernel_rfl
            refine OPC (CALL 24 #[.agg #[vi z, vi 0, vi x25, vi 0, vi x28, vi 0]] (some 76) ?_ [] [] _ rfl (RV (.string (bs (reqLine (⟨z, 0, x25, 0, x28, 0⟩ : Req))))) (fun w hw => sReqLine_c w (⟨z, 0, x25, 0, x28, 0⟩ : Req)) (by rintro _ ⟨⟩; exact Nat.le_of_ble_eq_true rfl) ?_)
            · as_aux_lemma => kernel_rfl
            rintro ⟨⟩
            have hr31 := reqLine_len (⟨z, 0, x25, 0, x28, 0⟩ : Req)
            refine RUN0 1 [3, 4, 5, 6, 7] [(0, .v (.string (bs line))), (2, .p 0 0), (7, .p 1 0), (76, .v (.string (bs (reqLine (⟨z, 0, x25, 0, x28, 0⟩ : Req))))), (77, .v (.string (bs line)))] ?_ rfl ?_
            · as_aux_lemma => kernel_rfl
            refine OPC (RUNV (.binOp .neq 9 (.tmp 76) (.tmp 77) 9) 78 4 ?_ (Nat.le_of_ble_eq_true rfl) (.bool (!((reqLine (⟨z, 0, x25, 0, x28, 0⟩ : Req)) == line))) (runs_sneq (a := reqLine (⟨z, 0, x25, 0, x28, 0⟩ : Req)) (b := line) ?_ ?_) ?_)
            · as_aux_lemma => kernel_rfl
            · as_aux_lemma => kernel_rfl
            · as_aux_lemma => kernel_rfl
            refine RUN0 1 [5, 6, 7] [(0, .v (.string (bs line))), (2, .p 0 0), (7, .p 1 0), (79, B (!((reqLine (⟨z, 0, x25, 0, x28, 0⟩ : Req)) == line)))] ?_ rfl ?_
            · as_aux_lemma => kernel_rfl
            refine SPLIT (d := 79) (!((reqLine (⟨z, 0, x25, 0, x28, 0⟩ : Req)) == line)) ?_ (fun bh32 => ?_) (fun bh32 => ?_)
            · as_aux_lemma => kernel_rfl
            · -- !((reqLine (⟨z, 0, x25, 0, x28, 0⟩ : Req)) == line) = true
              have h32 := bh32
              have h32 := notT h32
              have h32 := ne_of_beq_false h32
              refine RUN0 3 [] [(2, .p 0 0), (7, .p 1 0), (82, B true)] ?_ rfl ?_
              · as_aux_lemma => kernel_rfl
              refine ENDOPS (NEXT (IFT ?_ ?_))
              · as_aux_lemma => kernel_rfl
              refine SEQ (REGION [0, 1, 2] rfl (RUN0 3 [] [(2, .p 0 0), (3, B false)] ?_ rfl ?_))
              · as_aux_lemma => kernel_rfl
              refine ENDOPS (NEXT (RET (PASS trivial (FIN (.tuple #[.agg #[vi 0, vi 0, vi 0, vi 0, vi 0, vi 0], .bool false]) ?_ () ?_ [] ?_))))
              · as_aux_lemma => kernel_rfl
              · (have e0 := at5_of (hgd ▸ hx26); have e1 := at5_of (hgd ▸ hx29); have hv9 : kindGo w0 7 1 0 = z := hv; have hlq : ((readArgs ((parts line 32).drop 1)).getD []).length = l9.length := (by rw [hgd]); have hz := readS_of (line := line) (l := l9) (w := w0) (q := (⟨z, 0, x25, 0, x28, 0⟩ : Req)) (by omega) hl9 hw0 (by first | (rw [sReq, if_pos (by omega), hv9, ← e0, ← e1]; done) | (rw [sReq, if_neg (by omega), if_pos (by omega), hv9, ← e0, ← e1]; done) | (rw [sReq, if_neg (by omega), if_neg (by omega), if_pos (by omega), hv9, ← e0, ← e1]; done) | (rw [sReq, if_neg (by omega), if_neg (by omega), if_neg (by omega), hv9, ← e0, ← e1]; done)); simp only [RV]; rw [hz]; simp only [optReq]; first | (rw [if_pos ⟨by assumption, by assumption⟩]; rfl) | (rw [if_neg (fun e => (by first | exact absurd e.1 (by assumption) | exact absurd (by assumption) e.2))]; rfl))
              · rfl
            · -- !((reqLine (⟨z, 0, x25, 0, x28, 0⟩ : Req)) == line) = false
              have h32 := bh32
              have h32 := notF h32
              have h32 := eq_of_beq h32
              refine RUN0 1 [6, 7] [(2, .p 0 0), (7, .p 1 0), (79, B false), (80, .v (.string (bs line)))] ?_ rfl ?_
              · as_aux_lemma => kernel_rfl
              refine OPC (RUNV (.binOp .eql 9 (.tmp 80) (.const (.string (bs ([])))) 9) 81 4 ?_ (Nat.le_of_ble_eq_true rfl) (.bool (line == ([]))) (runs_seql (a := line) (b := []) ?_ ?_) ?_)
              · as_aux_lemma => kernel_rfl
              · as_aux_lemma => kernel_rfl
              · as_aux_lemma => kernel_rfl
              refine RUN0 1 [] [(2, .p 0 0), (7, .p 1 0), (82, B (line == ([])))] ?_ rfl ?_
              · as_aux_lemma => kernel_rfl
              refine ENDOPS (NEXT (IF (line == ([])) ?_ (fun bh33 => ?_) (fun bh33 => ?_)))
              · as_aux_lemma => kernel_rfl
              · -- line == ([]) = true
                have h33 := bh33
                have h33 := eq_of_beq h33
                refine SEQ (REGION [0, 1, 2] rfl (RUN0 3 [] [(2, .p 0 0), (3, B false)] ?_ rfl ?_))
                · as_aux_lemma => kernel_rfl
                refine ENDOPS (NEXT (RET (PASS trivial (FIN (.tuple #[.agg #[vi 0, vi 0, vi 0, vi 0, vi 0, vi 0], .bool false]) ?_ () ?_ [] ?_))))
                · as_aux_lemma => kernel_rfl
                · (have e0 := at5_of (hgd ▸ hx26); have e1 := at5_of (hgd ▸ hx29); have hv9 : kindGo w0 7 1 0 = z := hv; have hlq : ((readArgs ((parts line 32).drop 1)).getD []).length = l9.length := (by rw [hgd]); have hz := readS_of (line := line) (l := l9) (w := w0) (q := (⟨z, 0, x25, 0, x28, 0⟩ : Req)) (by omega) hl9 hw0 (by first | (rw [sReq, if_pos (by omega), hv9, ← e0, ← e1]; done) | (rw [sReq, if_neg (by omega), if_pos (by omega), hv9, ← e0, ← e1]; done) | (rw [sReq, if_neg (by omega), if_neg (by omega), if_pos (by omega), hv9, ← e0, ← e1]; done) | (rw [sReq, if_neg (by omega), if_neg (by omega), if_neg (by omega), hv9, ← e0, ← e1]; done)); simp only [RV]; rw [hz]; simp only [optReq]; first | (rw [if_pos ⟨by assumption, by assumption⟩]; rfl) | (rw [if_neg (fun e => (by first | exact absurd e.1 (by assumption) | exact absurd (by assumption) e.2))]; rfl))
                · rfl
              · -- line == ([]) = false
                have h33 := bh33
                have h33 := ne_of_beq_false h33
                refine SKIP (NEXT (SEQ (REGION [0, 1, 2] rfl (RUN 3 [] [(2, .p 0 0), (3, B true)] [(23, [vi z, vi 0, vi x25, vi 0, vi x28, vi 0]), (23, [vi z, vi 0, vi x25, vi 0, vi x28, vi 0])] ?_ rfl ?_))))
                · as_aux_lemma => kernel_rfl
                refine ENDOPS (NEXT (RET (FIN (.tuple #[.agg #[vi z, vi 0, vi x25, vi 0, vi x28, vi 0], .bool true]) ?_ () ?_ [] ?_)))
                · as_aux_lemma => kernel_rfl
                · (have e0 := at5_of (hgd ▸ hx26); have e1 := at5_of (hgd ▸ hx29); have hv9 : kindGo w0 7 1 0 = z := hv; have hlq : ((readArgs ((parts line 32).drop 1)).getD []).length = l9.length := (by rw [hgd]); have hz := readS_of (line := line) (l := l9) (w := w0) (q := (⟨z, 0, x25, 0, x28, 0⟩ : Req)) (by omega) hl9 hw0 (by first | (rw [sReq, if_pos (by omega), hv9, ← e0, ← e1]; done) | (rw [sReq, if_neg (by omega), if_pos (by omega), hv9, ← e0, ← e1]; done) | (rw [sReq, if_neg (by omega), if_neg (by omega), if_pos (by omega), hv9, ← e0, ← e1]; done) | (rw [sReq, if_neg (by omega), if_neg (by omega), if_neg (by omega), hv9, ← e0, ← e1]; done)); simp only [RV]; rw [hz]; simp only [optReq]; first | (rw [if_pos ⟨by assumption, by assumption⟩]; rfl) | (rw [if_neg (fun e => (by first | exact absurd e.1 (by assumption) | exact absurd (by assumption) e.2))]; rfl))
                · rfl
          · -- ((((readArgs ((parts line 32).drop 1)).getD []).length : Nat) : Int) == 2 = false
            have h24 := bh24
            have h24 := ne_of_beq_false h24
            refine SEQ (REGION [0, 1] rfl (RUN0 2 [] [(0, .v (.string (bs line))), (2, .p 0 0), (5, .v (.slice a10 (((readArgs ((parts line 32).drop 1)).getD []).length) c11)), (7, .p 1 0), (55, B (((((readArgs ((parts line 32).drop 1)).getD []).length : Nat) : Int) == 5))] ?_ rfl ?_))
            · as_aux_lemma => kernel_rfl
            refine ENDOPS (NEXT (IF (((((readArgs ((parts line 32).drop 1)).getD []).length : Nat) : Int) == 5) ?_ (fun bh34 => ?_) (fun bh34 => ?_)))
            · as_aux_lemma => kernel_rfl
            · -- ((((readArgs ((parts line 32).drop 1)).getD []).length : Nat) : Int) == 5 = true
              have h34 := bh34
              have h34 := eq_of_beq h34
              refine REGIONH ?_ 19 rfl [slA 9 strL (.slice a2 (parts line 32).length c3) (parts line 32), slA 3 intL (.slice a10 ((readArgs ((parts line 32).drop 1)).getD []).length c11) ((readArgs ((parts line 32).drop 1)).getD [])] ?_
              · as_aux_lemma => kernel_rfl
              refine HPURE 0 [(0, .v (.string (bs line))), (2, .p 0 0), (5, .v (.slice a10 (((readArgs ((parts line 32).drop 1)).getD []).length) c11)), (7, .p 1 0), (57, .p 1 0)] ?_ ?_ rfl ?_
              · as_aux_lemma => kernel_rfl
              · as_aux_lemma => kernel_rfl
              refine HPURE 2 [(0, .v (.string (bs line))), (2, .p 0 0), (5, .v (.slice a10 (((readArgs ((parts line 32).drop 1)).getD []).length) c11)), (7, .p 1 0), (57, .p 1 0), (59, .v (.slice a10 (((readArgs ((parts line 32).drop 1)).getD []).length) c11))] ?_ ?_ rfl ?_
              · as_aux_lemma => kernel_rfl
              · as_aux_lemma => kernel_rfl
              obtain ⟨x35, hx36⟩ : ∃ y, ((readArgs ((parts line 32).drop 1)).getD [])[0]? = some y := ⟨_, List.getElem?_eq_getElem (by omega)⟩
              refine FACT (a10.isSome = true) (fun w hw => SlO.isS (hw.own 1 rfl) (by omega)) (fun hs37 => ?_)
              refine HINDEX (i := 3)  24 (.tmp 59) (.const (vi 0)) 60 0 ?_ (Nat.le_of_ble_eq_true rfl) a10 (((readArgs ((parts line 32).drop 1)).getD []).length) c11 .i64 0 3 1 ?_ ?_ ?_ ?_ hs37 (by omega) (by omega) ?_ rfl ?_
              · as_aux_lemma => kernel_rfl
              · as_aux_lemma => kernel_rfl
              · as_aux_lemma => kernel_rfl
              · as_aux_lemma => kernel_rfl
              · as_aux_lemma => kernel_rfl
              · as_aux_lemma => kernel_rfl
              refine HLOADE (i := 4)  3 (.tmp 60) 61 3 ?_ (Nat.le_of_ble_eq_true rfl) a10 (0 * 1) 0 [vi x35] (vi x35) ?_ (fun w hw => (Rd.own (hw.own 1 rfl)).flat hx36) ?_ ?_ rfl ?_
              · as_aux_lemma => kernel_rfl
              · as_aux_lemma => kernel_rfl
              · as_aux_lemma => kernel_rfl
              · as_aux_lemma => kernel_rfl
              refine HPURE 5 [(0, .v (.string (bs line))), (2, .p 0 0), (5, .v (.slice a10 (((readArgs ((parts line 32).drop 1)).getD []).length) c11)), (7, .p 1 0), (57, .p 1 0), (61, I x35), (62, .v (.slice a10 (((readArgs ((parts line 32).drop 1)).getD []).length) c11))] ?_ ?_ rfl ?_
              · as_aux_lemma => kernel_rfl
              · as_aux_lemma => kernel_rfl
              obtain ⟨x38, hx39⟩ : ∃ y, ((readArgs ((parts line 32).drop 1)).getD [])[1]? = some y := ⟨_, List.getElem?_eq_getElem (by omega)⟩
              refine FACT (a10.isSome = true) (fun w hw => SlO.isS (hw.own 1 rfl) (by omega)) (fun hs40 => ?_)
              refine HINDEX (i := 6)  24 (.tmp 62) (.const (vi 1)) 63 0 ?_ (Nat.le_of_ble_eq_true rfl) a10 (((readArgs ((parts line 32).drop 1)).getD []).length) c11 .i64 1 3 1 ?_ ?_ ?_ ?_ hs40 (by omega) (by omega) ?_ rfl ?_
              · as_aux_lemma => kernel_rfl
              · as_aux_lemma => kernel_rfl
              · as_aux_lemma => kernel_rfl
              · as_aux_lemma => kernel_rfl
              · as_aux_lemma => kernel_rfl
              · as_aux_lemma => kernel_rfl
              refine HLOADE (i := 7)  3 (.tmp 63) 64 3 ?_ (Nat.le_of_ble_eq_true rfl) a10 (1 * 1) 0 [vi x38] (vi x38) ?_ (fun w hw => (Rd.own (hw.own 1 rfl)).flat hx39) ?_ ?_ rfl ?_
              · as_aux_lemma => kernel_rfl
              · as_aux_lemma => kernel_rfl
              · as_aux_lemma => kernel_rfl
              · as_aux_lemma => kernel_rfl
              refine HPURE 8 [(0, .v (.string (bs line))), (2, .p 0 0), (5, .v (.slice a10 (((readArgs ((parts line 32).drop 1)).getD []).length) c11)), (7, .p 1 0), (57, .p 1 0), (61, I x35), (64, I x38), (65, .v (.slice a10 (((readArgs ((parts line 32).drop 1)).getD []).length) c11))] ?_ ?_ rfl ?_
              · as_aux_lemma => kernel_rfl
              · as_aux_lemma => kernel_rfl
              obtain ⟨x41, hx42⟩ : ∃ y, ((readArgs ((parts line 32).drop 1)).getD [])[2]? = some y := ⟨_, List.getElem?_eq_getElem (by omega)⟩
              refine FACT (a10.isSome = true) (fun w hw => SlO.isS (hw.own 1 rfl) (by omega)) (fun hs43 => ?_)
              refine HINDEX (i := 9)  24 (.tmp 65) (.const (vi 2)) 66 0 ?_ (Nat.le_of_ble_eq_true rfl) a10 (((readArgs ((parts line 32).drop 1)).getD []).length) c11 .i64 2 3 1 ?_ ?_ ?_ ?_ hs43 (by omega) (by omega) ?_ rfl ?_
              · as_aux_lemma => kernel_rfl
              · as_aux_lemma => kernel_rfl
              · as_aux_lemma => kernel_rfl
              · as_aux_lemma => kernel_rfl
              · as_aux_lemma => kernel_rfl
              · as_aux_lemma => kernel_rfl
              refine HLOADE (i := 10)  3 (.tmp 66) 67 3 ?_ (Nat.le_of_ble_eq_true rfl) a10 (2 * 1) 0 [vi x41] (vi x41) ?_ (fun w hw => (Rd.own (hw.own 1 rfl)).flat hx42) ?_ ?_ rfl ?_
              · as_aux_lemma => kernel_rfl
              · as_aux_lemma => kernel_rfl
              · as_aux_lemma => kernel_rfl
              · as_aux_lemma => kernel_rfl
              refine HPURE 11 [(0, .v (.string (bs line))), (2, .p 0 0), (5, .v (.slice a10 (((readArgs ((parts line 32).drop 1)).getD []).length) c11)), (7, .p 1 0), (57, .p 1 0), (61, I x35), (64, I x38), (67, I x41), (68, .v (.slice a10 (((readArgs ((parts line 32).drop 1)).getD []).length) c11))] ?_ ?_ rfl ?_
              · as_aux_lemma => kernel_rfl
              · as_aux_lemma => kernel_rfl
              obtain ⟨x44, hx45⟩ : ∃ y, ((readArgs ((parts line 32).drop 1)).getD [])[3]? = some y := ⟨_, List.getElem?_eq_getElem (by omega)⟩
              refine FACT (a10.isSome = true) (fun w hw => SlO.isS (hw.own 1 rfl) (by omega)) (fun hs46 => ?_)
              refine HINDEX (i := 12)  24 (.tmp 68) (.const (vi 3)) 69 0 ?_ (Nat.le_of_ble_eq_true rfl) a10 (((readArgs ((parts line 32).drop 1)).getD []).length) c11 .i64 3 3 1 ?_ ?_ ?_ ?_ hs46 (by omega) (by omega) ?_ rfl ?_
              · as_aux_lemma => kernel_rfl
              · as_aux_lemma => kernel_rfl
              · as_aux_lemma => kernel_rfl
              · as_aux_lemma => kernel_rfl
              · as_aux_lemma => kernel_rfl
              · as_aux_lemma => kernel_rfl
              refine HLOADE (i := 13)  3 (.tmp 69) 70 3 ?_ (Nat.le_of_ble_eq_true rfl) a10 (3 * 1) 0 [vi x44] (vi x44) ?_ (fun w hw => (Rd.own (hw.own 1 rfl)).flat hx45) ?_ ?_ rfl ?_
              · as_aux_lemma => kernel_rfl
              · as_aux_lemma => kernel_rfl
              · as_aux_lemma => kernel_rfl
              · as_aux_lemma => kernel_rfl
              refine HPURE 14 [(0, .v (.string (bs line))), (2, .p 0 0), (7, .p 1 0), (57, .p 1 0), (61, I x35), (64, I x38), (67, I x41), (70, I x44), (71, .v (.slice a10 (((readArgs ((parts line 32).drop 1)).getD []).length) c11))] ?_ ?_ rfl ?_
              · as_aux_lemma => kernel_rfl
              · as_aux_lemma => kernel_rfl
              obtain ⟨x47, hx48⟩ : ∃ y, ((readArgs ((parts line 32).drop 1)).getD [])[4]? = some y := ⟨_, List.getElem?_eq_getElem (by omega)⟩
              refine FACT (a10.isSome = true) (fun w hw => SlO.isS (hw.own 1 rfl) (by omega)) (fun hs49 => ?_)
              refine HINDEX (i := 15)  24 (.tmp 71) (.const (vi 4)) 72 0 ?_ (Nat.le_of_ble_eq_true rfl) a10 (((readArgs ((parts line 32).drop 1)).getD []).length) c11 .i64 4 3 1 ?_ ?_ ?_ ?_ hs49 (by omega) (by omega) ?_ rfl ?_
              · as_aux_lemma => kernel_rfl
              · as_aux_lemma => kernel_rfl
              · as_aux_lemma => kernel_rfl
              · as_aux_lemma => kernel_rfl
              · as_aux_lemma => kernel_rfl
              · as_aux_lemma => kernel_rfl
              refine HLOADE (i := 16)  3 (.tmp 72) 73 3 ?_ (Nat.le_of_ble_eq_true rfl) a10 (4 * 1) 0 [vi x47] (vi x47) ?_ (fun w hw => (Rd.own (hw.own 1 rfl)).flat hx48) ?_ ?_ rfl ?_
              · as_aux_lemma => kernel_rfl
              · as_aux_lemma => kernel_rfl
              · as_aux_lemma => kernel_rfl
              · as_aux_lemma => kernel_rfl
              refine HALL [1] ?_ (by decide) ?_
              · as_aux_lemma => kernel_rfl
              refine RUNO [(0, .v (.string (bs line))), (2, .p 0 0), (7, .p 1 0), (58, I z), (61, I x35), (64, I x38), (67, I x41), (70, I x44), (73, I x47)] [(23, [vi 0, vi 0, vi 0, vi 0, vi 0, vi 0]), (23, [vi z, vi 0, vi 0, vi 0, vi 0, vi 0])] ?_ ?_
              · as_aux_lemma => kernel_rfl
              refine HKEEP rfl (HPURE 17 [(0, .v (.string (bs line))), (2, .p 0 0), (7, .p 1 0), (74, .v (.agg #[vi z, vi x35, vi x38, vi x41, vi x44, vi x47]))] ?_ ?_ rfl ?_)
              · as_aux_lemma => kernel_rfl
              · as_aux_lemma => kernel_rfl
              refine HALL [18] ?_ (by decide) ?_
              · as_aux_lemma => kernel_rfl
              refine RUNO [(0, .v (.string (bs line))), (2, .p 0 0), (7, .p 1 0)] [(23, [vi 0, vi 0, vi 0, vi 0, vi 0, vi 0]), (23, [vi z, vi x35, vi x38, vi x41, vi x44, vi x47])] ?_ ?_
              · as_aux_lemma => kernel_rfl
              refine HKEEP rfl (HEND ?_ ?_)
              · as_aux_lemma => kernel_rfl
              refine OUTN (NEXT (SEQ (SEQ (REGION [0, 1, 2, 3, 4, 5, 6, 7] rfl (RUN0 1 [1, 2, 3, 4, 5, 6, 7] [(0, .v (.string (bs line))), (2, .p 0 0), (7, .p 1 0), (75, .v (.agg #[vi z, vi x35, vi x38, vi x41, vi x44, vi x47]))] ?_ rfl ?_)))))
              · as_aux_lemma => kernel_rfl
              refine OPC (CALL 24 #[.agg #[vi z, vi x35, vi x38, vi x41, vi x44, vi x47]] (some 76) ?_ [] [] _ rfl (RV (.string (bs (reqLine (⟨z, x35, x38, x41, x44, x47⟩ : Req))))) (fun w hw => sReqLine_c w (⟨z, x35, x38, x41, x44, x47⟩ : Req)) (by rintro _ ⟨⟩; exact Nat.le_of_ble_eq_true rfl) ?_)
              · as_aux_lemma => kernel_rfl
              rintro ⟨⟩
              have hr50 := reqLine_len (⟨z, x35, x38, x41, x44, x47⟩ : Req)
              refine RUN0 1 [3, 4, 5, 6, 7] [(0, .v (.string (bs line))), (2, .p 0 0), (7, .p 1 0), (76, .v (.string (bs (reqLine (⟨z, x35, x38, x41, x44, x47⟩ : Req))))), (77, .v (.string (bs line)))] ?_ rfl ?_
              · as_aux_lemma => kernel_rfl
              refine OPC (RUNV (.binOp .neq 9 (.tmp 76) (.tmp 77) 9) 78 4 ?_ (Nat.le_of_ble_eq_true rfl) (.bool (!((reqLine (⟨z, x35, x38, x41, x44, x47⟩ : Req)) == line))) (runs_sneq (a := reqLine (⟨z, x35, x38, x41, x44, x47⟩ : Req)) (b := line) ?_ ?_) ?_)
              · as_aux_lemma => kernel_rfl
              · as_aux_lemma => kernel_rfl
              · as_aux_lemma => kernel_rfl
              refine RUN0 1 [5, 6, 7] [(0, .v (.string (bs line))), (2, .p 0 0), (7, .p 1 0), (79, B (!((reqLine (⟨z, x35, x38, x41, x44, x47⟩ : Req)) == line)))] ?_ rfl ?_
              · as_aux_lemma => kernel_rfl
              refine SPLIT (d := 79) (!((reqLine (⟨z, x35, x38, x41, x44, x47⟩ : Req)) == line)) ?_ (fun bh51 => ?_) (fun bh51 => ?_)
              · as_aux_lemma => kernel_rfl
              · -- !((reqLine (⟨z, x35, x38, x41, x44, x47⟩ : Req)) == line) = true
                have h51 := bh51
                have h51 := notT h51
                have h51 := ne_of_beq_false h51
                refine RUN0 3 [] [(2, .p 0 0), (7, .p 1 0), (82, B true)] ?_ rfl ?_
                · as_aux_lemma => kernel_rfl
                refine ENDOPS (NEXT (IFT ?_ ?_))
                · as_aux_lemma => kernel_rfl
                refine SEQ (REGION [0, 1, 2] rfl (RUN0 3 [] [(2, .p 0 0), (3, B false)] ?_ rfl ?_))
                · as_aux_lemma => kernel_rfl
                refine ENDOPS (NEXT (RET (PASS trivial (FIN (.tuple #[.agg #[vi 0, vi 0, vi 0, vi 0, vi 0, vi 0], .bool false]) ?_ () ?_ [] ?_))))
                · as_aux_lemma => kernel_rfl
                · (have e0 := at5_of (hgd ▸ hx36); have e1 := at5_of (hgd ▸ hx39); have e2 := at5_of (hgd ▸ hx42); have e3 := at5_of (hgd ▸ hx45); have e4 := at5_of (hgd ▸ hx48); have hv9 : kindGo w0 7 1 0 = z := hv; have hlq : ((readArgs ((parts line 32).drop 1)).getD []).length = l9.length := (by rw [hgd]); have hz := readS_of (line := line) (l := l9) (w := w0) (q := (⟨z, x35, x38, x41, x44, x47⟩ : Req)) (by omega) hl9 hw0 (by first | (rw [sReq, if_pos (by omega), hv9, ← e0, ← e1, ← e2, ← e3, ← e4]; done) | (rw [sReq, if_neg (by omega), if_pos (by omega), hv9, ← e0, ← e1, ← e2, ← e3, ← e4]; done) | (rw [sReq, if_neg (by omega), if_neg (by omega), if_pos (by omega), hv9, ← e0, ← e1, ← e2, ← e3, ← e4]; done) | (rw [sReq, if_neg (by omega), if_neg (by omega), if_neg (by omega), hv9, ← e0, ← e1, ← e2, ← e3, ← e4]; done)); simp only [RV]; rw [hz]; simp only [optReq]; first | (rw [if_pos ⟨by assumption, by assumption⟩]; rfl) | (rw [if_neg (fun e => (by first | exact absurd e.1 (by assumption) | exact absurd (by assumption) e.2))]; rfl))
                · rfl
              · -- !((reqLine (⟨z, x35, x38, x41, x44, x47⟩ : Req)) == line) = false
                have h51 := bh51
                have h51 := notF h51
                have h51 := eq_of_beq h51
                refine RUN0 1 [6, 7] [(2, .p 0 0), (7, .p 1 0), (79, B false), (80, .v (.string (bs line)))] ?_ rfl ?_
                · as_aux_lemma => kernel_rfl
                refine OPC (RUNV (.binOp .eql 9 (.tmp 80) (.const (.string (bs ([])))) 9) 81 4 ?_ (Nat.le_of_ble_eq_true rfl) (.bool (line == ([]))) (runs_seql (a := line) (b := []) ?_ ?_) ?_)
                · as_aux_lemma => kernel_rfl
                · as_aux_lemma => kernel_rfl
                · as_aux_lemma => kernel_rfl
                refine RUN0 1 [] [(2, .p 0 0), (7, .p 1 0), (82, B (line == ([])))] ?_ rfl ?_
                · as_aux_lemma => kernel_rfl
                refine ENDOPS (NEXT (IF (line == ([])) ?_ (fun bh52 => ?_) (fun bh52 => ?_)))
                · as_aux_lemma => kernel_rfl
                · -- line == ([]) = true
                  have h52 := bh52
                  have h52 := eq_of_beq h52
                  refine SEQ (REGION [0, 1, 2] rfl (RUN0 3 [] [(2, .p 0 0), (3, B false)] ?_ rfl ?_))
                  · as_aux_lemma => kernel_rfl
                  refine ENDOPS (NEXT (RET (PASS trivial (FIN (.tuple #[.agg #[vi 0, vi 0, vi 0, vi 0, vi 0, vi 0], .bool false]) ?_ () ?_ [] ?_))))
                  · as_aux_lemma => kernel_rfl
                  · (have e0 := at5_of (hgd ▸ hx36); have e1 := at5_of (hgd ▸ hx39); have e2 := at5_of (hgd ▸ hx42); have e3 := at5_of (hgd ▸ hx45); have e4 := at5_of (hgd ▸ hx48); have hv9 : kindGo w0 7 1 0 = z := hv; have hlq : ((readArgs ((parts line 32).drop 1)).getD []).length = l9.length := (by rw [hgd]); have hz := readS_of (line := line) (l := l9) (w := w0) (q := (⟨z, x35, x38, x41, x44, x47⟩ : Req)) (by omega) hl9 hw0 (by first | (rw [sReq, if_pos (by omega), hv9, ← e0, ← e1, ← e2, ← e3, ← e4]; done) | (rw [sReq, if_neg (by omega), if_pos (by omega), hv9, ← e0, ← e1, ← e2, ← e3, ← e4]; done) | (rw [sReq, if_neg (by omega), if_neg (by omega), if_pos (by omega), hv9, ← e0, ← e1, ← e2, ← e3, ← e4]; done) | (rw [sReq, if_neg (by omega), if_neg (by omega), if_neg (by omega), hv9, ← e0, ← e1, ← e2, ← e3, ← e4]; done)); simp only [RV]; rw [hz]; simp only [optReq]; first | (rw [if_pos ⟨by assumption, by assumption⟩]; rfl) | (rw [if_neg (fun e => (by first | exact absurd e.1 (by assumption) | exact absurd (by assumption) e.2))]; rfl))
                  · rfl
                · -- line == ([]) = false
                  have h52 := bh52
                  have h52 := ne_of_beq_false h52
                  refine SKIP (NEXT (SEQ (REGION [0, 1, 2] rfl (RUN 3 [] [(2, .p 0 0), (3, B true)] [(23, [vi z, vi x35, vi x38, vi x41, vi x44, vi x47]), (23, [vi z, vi x35, vi x38, vi x41, vi x44, vi x47])] ?_ rfl ?_))))
                  · as_aux_lemma => kernel_rfl
                  refine ENDOPS (NEXT (RET (FIN (.tuple #[.agg #[vi z, vi x35, vi x38, vi x41, vi x44, vi x47], .bool true]) ?_ () ?_ [] ?_)))
                  · as_aux_lemma => kernel_rfl
                  · (have e0 := at5_of (hgd ▸ hx36); have e1 := at5_of (hgd ▸ hx39); have e2 := at5_of (hgd ▸ hx42); have e3 := at5_of (hgd ▸ hx45); have e4 := at5_of (hgd ▸ hx48); have hv9 : kindGo w0 7 1 0 = z := hv; have hlq : ((readArgs ((parts line 32).drop 1)).getD []).length = l9.length := (by rw [hgd]); have hz := readS_of (line := line) (l := l9) (w := w0) (q := (⟨z, x35, x38, x41, x44, x47⟩ : Req)) (by omega) hl9 hw0 (by first | (rw [sReq, if_pos (by omega), hv9, ← e0, ← e1, ← e2, ← e3, ← e4]; done) | (rw [sReq, if_neg (by omega), if_pos (by omega), hv9, ← e0, ← e1, ← e2, ← e3, ← e4]; done) | (rw [sReq, if_neg (by omega), if_neg (by omega), if_pos (by omega), hv9, ← e0, ← e1, ← e2, ← e3, ← e4]; done) | (rw [sReq, if_neg (by omega), if_neg (by omega), if_neg (by omega), hv9, ← e0, ← e1, ← e2, ← e3, ← e4]; done)); simp only [RV]; rw [hz]; simp only [optReq]; first | (rw [if_pos ⟨by assumption, by assumption⟩]; rfl) | (rw [if_neg (fun e => (by first | exact absurd e.1 (by assumption) | exact absurd (by assumption) e.2))]; rfl))
                  · rfl
            · -- ((((readArgs ((parts line 32).drop 1)).getD []).length : Nat) : Int) == 5 = false
              have h34 := bh34
              have h34 := ne_of_beq_false h34
              refine SKIP (OUTN (NEXT (SEQ (SEQ (REGION [0, 1, 2, 3, 4, 5, 6, 7] rfl (RUN0 1 [1, 2, 3, 4, 5, 6, 7] [(0, .v (.string (bs line))), (2, .p 0 0), (7, .p 1 0), (75, .v (.agg #[vi z, vi 0, vi 0, vi 0, vi 0, vi 0]))] ?_ rfl ?_))))))
              · as_aux_lemma => kernel_rfl
              refine OPC (CALL 24 #[.agg #[vi z, vi 0, vi 0, vi 0, vi 0, vi 0]] (some 76) ?_ [] [] _ rfl (RV (.string (bs (reqLine (⟨z, 0, 0, 0, 0, 0⟩ : Req))))) (fun w hw => sReqLine_c w (⟨z, 0, 0, 0, 0, 0⟩ : Req)) (by rintro _ ⟨⟩; exact Nat.le_of_ble_eq_true rfl) ?_)
              · as_aux_lemma => kernel_rfl
              rintro ⟨⟩
              have hr53 := reqLine_len (⟨z, 0, 0, 0, 0, 0⟩ : Req)
              refine RUN0 1 [3, 4, 5, 6, 7] [(0, .v (.string (bs line))), (2, .p 0 0), (7, .p 1 0), (76, .v (.string (bs (reqLine (⟨z, 0, 0, 0, 0, 0⟩ : Req))))), (77, .v (.string (bs line)))] ?_ rfl ?_
              · as_aux_lemma => kernel_rfl
              refine OPC (RUNV (.binOp .neq 9 (.tmp 76) (.tmp 77) 9) 78 4 ?_ (Nat.le_of_ble_eq_true rfl) (.bool (!((reqLine (⟨z, 0, 0, 0, 0, 0⟩ : Req)) == line))) (runs_sneq (a := reqLine (⟨z, 0, 0, 0, 0, 0⟩ : Req)) (b := line) ?_ ?_) ?_)
              · as_aux_lemma => kernel_rfl
              · as_aux_lemma => kernel_rfl
              · as_aux_lemma => kernel_rfl
              refine RUN0 1 [5, 6, 7] [(0, .v (.string (bs line))), (2, .p 0 0), (7, .p 1 0), (79, B (!((reqLine (⟨z, 0, 0, 0, 0, 0⟩ : Req)) == line)))] ?_ rfl ?_
              · as_aux_lemma => kernel_rfl
              refine SPLIT (d := 79) (!((reqLine (⟨z, 0, 0, 0, 0, 0⟩ : Req)) == line)) ?_ (fun bh54 => ?_) (fun bh54 => ?_)
              · as_aux_lemma => kernel_rfl
              · -- !((reqLine (⟨z, 0, 0, 0, 0, 0⟩ : Req)) == line) = true
                have h54 := bh54
                have h54 := notT h54
                have h54 := ne_of_beq_false h54
                refine RUN0 3 [] [(2, .p 0 0), (7, .p 1 0), (82, B true)] ?_ rfl ?_
                · as_aux_lemma => kernel_rfl
                refine ENDOPS (NEXT (IFT ?_ ?_))
                · as_aux_lemma => kernel_rfl
                refine SEQ (REGION [0, 1, 2] rfl (RUN0 3 [] [(2, .p 0 0), (3, B false)] ?_ rfl ?_))
                · as_aux_lemma => kernel_rfl
                refine ENDOPS (NEXT (RET (PASS trivial (FIN (.tuple #[.agg #[vi 0, vi 0, vi 0, vi 0, vi 0, vi 0], .bool false]) ?_ () ?_ [] ?_))))
                · as_aux_lemma => kernel_rfl
                · (have hv9 : kindGo w0 7 1 0 = z := hv; have hlq : ((readArgs ((parts line 32).drop 1)).getD []).length = l9.length := (by rw [hgd]); have hz := readS_of (line := line) (l := l9) (w := w0) (q := (⟨z, 0, 0, 0, 0, 0⟩ : Req)) (by omega) hl9 hw0 (by first | (rw [sReq, if_pos (by omega), hv9]; done) | (rw [sReq, if_neg (by omega), if_pos (by omega), hv9]; done) | (rw [sReq, if_neg (by omega), if_neg (by omega), if_pos (by omega), hv9]; done) | (rw [sReq, if_neg (by omega), if_neg (by omega), if_neg (by omega), hv9]; done)); simp only [RV]; rw [hz]; simp only [optReq]; first | (rw [if_pos ⟨by assumption, by assumption⟩]; rfl) | (rw [if_neg (fun e => (by first | exact absurd e.1 (by assumption) | exact absurd (by assumption) e.2))]; rfl))
                · rfl
              · -- !((reqLine (⟨z, 0, 0, 0, 0, 0⟩ : Req)) == line) = false
                have h54 := bh54
                have h54 := notF h54
                have h54 := eq_of_beq h54
                refine RUN0 1 [6, 7] [(2, .p 0 0), (7, .p 1 0), (79, B false), (80, .v (.string (bs line)))] ?_ rfl ?_
                · as_aux_lemma => kernel_rfl
                refine OPC (RUNV (.binOp .eql 9 (.tmp 80) (.const (.string (bs ([])))) 9) 81 4 ?_ (Nat.le_of_ble_eq_true rfl) (.bool (line == ([]))) (runs_seql (a := line) (b := []) ?_ ?_) ?_)
                · as_aux_lemma => kernel_rfl
                · as_aux_lemma => kernel_rfl
                · as_aux_lemma => kernel_rfl
                refine RUN0 1 [] [(2, .p 0 0), (7, .p 1 0), (82, B (line == ([])))] ?_ rfl ?_
                · as_aux_lemma => kernel_rfl
                refine ENDOPS (NEXT (IF (line == ([])) ?_ (fun bh55 => ?_) (fun bh55 => ?_)))
                · as_aux_lemma => kernel_rfl
                · -- line == ([]) = true
                  have h55 := bh55
                  have h55 := eq_of_beq h55
                  refine SEQ (REGION [0, 1, 2] rfl (RUN0 3 [] [(2, .p 0 0), (3, B false)] ?_ rfl ?_))
                  · as_aux_lemma => kernel_rfl
                  refine ENDOPS (NEXT (RET (PASS trivial (FIN (.tuple #[.agg #[vi 0, vi 0, vi 0, vi 0, vi 0, vi 0], .bool false]) ?_ () ?_ [] ?_))))
                  · as_aux_lemma => kernel_rfl
                  · (have hv9 : kindGo w0 7 1 0 = z := hv; have hlq : ((readArgs ((parts line 32).drop 1)).getD []).length = l9.length := (by rw [hgd]); have hz := readS_of (line := line) (l := l9) (w := w0) (q := (⟨z, 0, 0, 0, 0, 0⟩ : Req)) (by omega) hl9 hw0 (by first | (rw [sReq, if_pos (by omega), hv9]; done) | (rw [sReq, if_neg (by omega), if_pos (by omega), hv9]; done) | (rw [sReq, if_neg (by omega), if_neg (by omega), if_pos (by omega), hv9]; done) | (rw [sReq, if_neg (by omega), if_neg (by omega), if_neg (by omega), hv9]; done)); simp only [RV]; rw [hz]; simp only [optReq]; first | (rw [if_pos ⟨by assumption, by assumption⟩]; rfl) | (rw [if_neg (fun e => (by first | exact absurd e.1 (by assumption) | exact absurd (by assumption) e.2))]; rfl))
                  · rfl
                · -- line == ([]) = false
                  have h55 := bh55
                  have h55 := ne_of_beq_false h55
                  refine SKIP (NEXT (SEQ (REGION [0, 1, 2] rfl (RUN 3 [] [(2, .p 0 0), (3, B true)] [(23, [vi z, vi 0, vi 0, vi 0, vi 0, vi 0]), (23, [vi z, vi 0, vi 0, vi 0, vi 0, vi 0])] ?_ rfl ?_))))
                  · as_aux_lemma => kernel_rfl
                  refine ENDOPS (NEXT (RET (FIN (.tuple #[.agg #[vi z, vi 0, vi 0, vi 0, vi 0, vi 0], .bool true]) ?_ () ?_ [] ?_)))
                  · as_aux_lemma => kernel_rfl
                  · (have hv9 : kindGo w0 7 1 0 = z := hv; have hlq : ((readArgs ((parts line 32).drop 1)).getD []).length = l9.length := (by rw [hgd]); have hz := readS_of (line := line) (l := l9) (w := w0) (q := (⟨z, 0, 0, 0, 0, 0⟩ : Req)) (by omega) hl9 hw0 (by first | (rw [sReq, if_pos (by omega), hv9]; done) | (rw [sReq, if_neg (by omega), if_pos (by omega), hv9]; done) | (rw [sReq, if_neg (by omega), if_neg (by omega), if_pos (by omega), hv9]; done) | (rw [sReq, if_neg (by omega), if_neg (by omega), if_neg (by omega), hv9]; done)); simp only [RV]; rw [hz]; simp only [optReq]; first | (rw [if_pos ⟨by assumption, by assumption⟩]; rfl) | (rw [if_neg (fun e => (by first | exact absurd e.1 (by assumption) | exact absurd (by assumption) e.2))]; rfl))
                  · rfl

end SX
end Go.Proofs.YtpdijcbgdalphabDoor
