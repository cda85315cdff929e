/- Walks, printed by program. -/
import Derived.Test.YtcjaeedkhlnegaaW6
namespace Go.Proofs.Ytcjaeedkhlnegaa
namespace SX
open Go Go.RowKit
set_option linter.unusedVariables false
set_option linter.unusedSimpArgs false
set_option maxRecDepth 10000
theorem sFrameOf_c (W : World) (seq : Int) (body : List UInt8) (hbd : body.length ≤ 1048576) : Spec Try.prog W [] 41 #[vi seq, .string (bs body)] (RV (.string (bs (frameOf seq body)))) := by
  refine ENTER0 (N := 33) (vs := [vi seq, .string (bs body)]) Try.func41 rfl rfl (Nat.le_of_ble_eq_true rfl) ?_
  refine SEQ (REGION [0] rfl (RUN0 1 [] [(0, I seq), (1, .v (.string (bs body)))] ?_ rfl ?_))
  · as_aux_lemma => kernel_rfl
  refine ENDOPS (NEXT (SEQ (SEQ (REGION [0, 1, 2, 3, 4, 5, 6, 7, 8] rfl (RUN0 1 [1, 2, 3, 4, 5, 6, 7, 8] [(0, I seq), (1, .v (.string (bs body))), (7, I seq)] ?_ rfl ?_)))))
  · as_aux_lemma => kernel_rfl
  refine OPC (CALL 25 #[vi seq, vi 1, vi 1000000] (some 8) ?_ [] [] _ rfl (RV (.bool (inB seq 1 1000000))) (fun w hw => l1In_c w seq 1 1000000) (by rintro _ ⟨⟩; exact Nat.le_of_ble_eq_true rfl) ?_)
  · as_aux_lemma => kernel_rfl
  rintro ⟨⟩
  refine RUN0 2 [4, 5, 6, 7, 8] [(0, I seq), (1, .v (.string (bs body))), (10, B (!(inB seq 1 1000000)))] ?_ rfl ?_
  · as_aux_lemma => kernel_rfl
  refine SPLIT (d := 10) (!(inB seq 1 1000000)) ?_ (fun bh1 => ?_) (fun bh1 => ?_)
  · as_aux_lemma => kernel_rfl
  · -- !(inB seq 1 1000000) = true
    have h1 := bh1
    have h1 := notT h1
    refine RUN0 5 [] [(0, I seq), (1, .v (.string (bs body))), (15, B true)] ?_ rfl ?_
    · as_aux_lemma => kernel_rfl
    refine ENDOPS (NEXT (IFT ?_ ?_))
    · as_aux_lemma => kernel_rfl
    refine SEQ (REGION [0] rfl (RUN0 1 [] [(4, .v (.string (bs ([]))))] ?_ rfl ?_))
    · as_aux_lemma => kernel_rfl
    refine ENDOPS (NEXT (RET (PASS trivial (FIN (.string (bs ([]))) ?_ () ?_ [] ?_))))
    · as_aux_lemma => kernel_rfl
    · simp_all [RV, frameOf, four_nat]
    · rfl
  · -- !(inB seq 1 1000000) = false
    have h1 := bh1
    have h1 := notF h1
    refine RUN0 2 [6, 7, 8] [(0, I seq), (1, .v (.string (bs body))), (10, B false), (12, I (body.length : Int))] ?_ rfl ?_
    · as_aux_lemma => kernel_rfl
    refine OPC (CALL 25 #[vi (body.length : Int), vi 1, vi 60] (some 13) ?_ [] [] _ rfl (RV (.bool (inB (body.length : Int) 1 60))) (fun w hw => l1In_c w (body.length : Int) 1 60) (by rintro _ ⟨⟩; exact Nat.le_of_ble_eq_true rfl) ?_)
    · as_aux_lemma => kernel_rfl
    rintro ⟨⟩
    refine RUN0 2 [] [(0, I seq), (1, .v (.string (bs body))), (15, B (!(inB (body.length : Int) 1 60)))] ?_ rfl ?_
    · as_aux_lemma => kernel_rfl
    refine ENDOPS (NEXT (IF (!(inB (body.length : Int) 1 60)) ?_ (fun bh2 => ?_) (fun bh2 => ?_)))
    · as_aux_lemma => kernel_rfl
    · -- !(inB (body.length : Int) 1 60) = true
      have h2 := bh2
      have h2 := notT h2
      refine SEQ (REGION [0] rfl (RUN0 1 [] [(4, .v (.string (bs ([]))))] ?_ rfl ?_))
      · as_aux_lemma => kernel_rfl
      refine ENDOPS (NEXT (RET (PASS trivial (FIN (.string (bs ([]))) ?_ () ?_ [] ?_))))
      · as_aux_lemma => kernel_rfl
      · simp_all [RV, frameOf, four_nat]
      · rfl
    · -- !(inB (body.length : Int) 1 60) = false
      have h2 := bh2
      have h2 := notF h2
      have hbl := inB_len h2
      refine SKIP (NEXT (SEQ (REGION [0, 1, 2, 3, 4, 5] rfl (RUN0 1 [1, 2, 3, 4, 5] [(1, .v (.string (bs body))), (16, I seq)] ?_ rfl ?_))))
      · as_aux_lemma => kernel_rfl
      refine OPC (CALL 45 #[vi seq] (some 17) ?_ [] [] _ rfl (⟨HH, fun p => .slice p.1 ((putNum seq).length) p.2, fun p => [slA 5 byteL (.slice p.1 (putNum seq).length p.2) (putNum seq)]⟩) (fun w hw => sPutNum_c w seq) (by rintro _ ⟨⟩; exact Nat.le_of_ble_eq_true rfl) ?_)
      · as_aux_lemma => kernel_rfl
      rintro ⟨a3, c4⟩
      have hr5 := putNum_len seq
      refine OPC (RUNV (.convert 62 9 (.tmp 17)) 18 9 ?_ (Nat.le_of_ble_eq_true rfl) (.string (bs (putNum seq))) (runs_bstr (a := a3) (n := (putNum seq).length) (c := c4) (xs := putNum seq) (e := 5) ?_ ?_ ?_ ?_ rfl (fun w hw => (Rd.own (hw.own 0 rfl)))) ?_)
      · as_aux_lemma => kernel_rfl
      · as_aux_lemma => kernel_rfl
      · as_aux_lemma => kernel_rfl
      · as_aux_lemma => kernel_rfl
      · as_aux_lemma => kernel_rfl
      refine RUN0 1 [4, 5] [(18, .v (.string (bs (putNum seq)))), (19, .v (.string (bs body)))] ?_ rfl ?_
      · as_aux_lemma => kernel_rfl
      refine OPC (RUNV (.binOp .add 9 (.tmp 18) (.tmp 19) 9) 20 9 ?_ (Nat.le_of_ble_eq_true rfl) (.string (bs ((putNum seq) ++ body))) (runs_scat (a := putNum seq) (b := body) ?_ ?_ (by first | omega | (simp only [List.length_append, List.length_cons, List.length_nil, List.length_take, List.length_drop] at *; omega))) ?_)
      · as_aux_lemma => kernel_rfl
      · as_aux_lemma => kernel_rfl
      · as_aux_lemma => kernel_rfl
      refine RUN0 1 [] [(5, .v (.string (bs ((putNum seq) ++ body))))] ?_ rfl ?_
      · as_aux_lemma => kernel_rfl
      refine ENDOPS (NEXT (SEQ (REGION [0, 1, 2, 3, 4, 5, 6] rfl (RUN0 1 [1, 2, 3, 4, 5, 6] [(5, .v (.string (bs ((putNum seq) ++ body)))), (21, .v (.string (bs ((putNum seq) ++ body))))] ?_ rfl ?_))))
      · as_aux_lemma => kernel_rfl
      refine OPC (CONVB 9 62 (.tmp 21) 22 62 ?_ (Nat.le_of_ble_eq_true rfl) ((putNum seq) ++ body) ?_ 5 ?_ ?_ ?_ (by first | omega | (simp only [List.length_append, List.length_cons, List.length_nil, List.length_take, List.length_drop] at *; omega)) (fun a6 c7 ha8 => ?_))
      · as_aux_lemma => kernel_rfl
      · as_aux_lemma => kernel_rfl
      · as_aux_lemma => kernel_rfl
      · as_aux_lemma => kernel_rfl
      · as_aux_lemma => kernel_rfl
      refine OPC (CALL 47 #[.slice a6 (((putNum seq) ++ body).length) c7] (some 23) ?_ [] [] _ rfl (RV (vi ((crc ((putNum seq) ++ body) : Nat) : Int))) (fun w hw => sCrc_c w ((putNum seq) ++ body) a6 c7 (Rd.of (hw.own 1 rfl))) (by rintro _ ⟨⟩; exact Nat.le_of_ble_eq_true rfl) ?_)
      · as_aux_lemma => kernel_rfl
      rintro ⟨⟩
      refine OPC (CALL 46 #[vi ((crc ((putNum seq) ++ body) : Nat) : Int)] (some 24) ?_ [] [] _ rfl (RV (.string (bs (four ((crc ((putNum seq) ++ body) : Nat) : Int))))) (fun w hw => four_c w ((crc ((putNum seq) ++ body) : Nat) : Int)) (by rintro _ ⟨⟩; exact Nat.le_of_ble_eq_true rfl) ?_)
      · as_aux_lemma => kernel_rfl
      rintro ⟨⟩
      have hr9 := four_len ((crc ((putNum seq) ++ body) : Nat) : Int)
      refine RUN0 1 [5, 6] [(24, .v (.string (bs (four ((crc ((putNum seq) ++ body) : Nat) : Int))))), (25, .v (.string (bs ((putNum seq) ++ body))))] ?_ rfl ?_
      · as_aux_lemma => kernel_rfl
      refine OPC (RUNV (.binOp .add 9 (.tmp 24) (.tmp 25) 9) 26 9 ?_ (Nat.le_of_ble_eq_true rfl) (.string (bs ((four ((crc ((putNum seq) ++ body) : Nat) : Int)) ++ ((putNum seq) ++ body)))) (runs_scat (a := four ((crc ((putNum seq) ++ body) : Nat) : Int)) (b := (putNum seq) ++ body) ?_ ?_ (by first | omega | (simp only [List.length_append, List.length_cons, List.length_nil, List.length_take, List.length_drop] at *; omega))) ?_)
      · as_aux_lemma => kernel_rfl
      · as_aux_lemma => kernel_rfl
      · as_aux_lemma => kernel_rfl
      refine RUN0 1 [] [(6, .v (.string (bs ((four ((crc ((putNum seq) ++ body) : Nat) : Int)) ++ ((putNum seq) ++ body)))))] ?_ rfl ?_
      · as_aux_lemma => kernel_rfl
      refine ENDOPS (NEXT (SEQ (REGION [0, 1, 2, 3, 4, 5, 6] rfl (RUN0 2 [2, 3, 4, 5, 6] [(6, .v (.string (bs ((four ((crc ((putNum seq) ++ body) : Nat) : Int)) ++ ((putNum seq) ++ body))))), (28, I ((((four ((crc ((putNum seq) ++ body) : Nat) : Int)) ++ ((putNum seq) ++ body)).length : Nat) : Int))] ?_ rfl ?_))))
      · as_aux_lemma => kernel_rfl
      refine OPC (CALL 45 #[vi ((((four ((crc ((putNum seq) ++ body) : Nat) : Int)) ++ ((putNum seq) ++ body)).length : Nat) : Int)] (some 29) ?_ [] [] _ rfl (⟨HH, fun p => .slice p.1 ((putNum ((((four ((crc ((putNum seq) ++ body) : Nat) : Int)) ++ ((putNum seq) ++ body)).length : Nat) : Int)).length) p.2, fun p => [slA 5 byteL (.slice p.1 (putNum ((((four ((crc ((putNum seq) ++ body) : Nat) : Int)) ++ ((putNum seq) ++ body)).length : Nat) : Int)).length p.2) (putNum ((((four ((crc ((putNum seq) ++ body) : Nat) : Int)) ++ ((putNum seq) ++ body)).length : Nat) : Int))]⟩) (fun w hw => sPutNum_c w ((((four ((crc ((putNum seq) ++ body) : Nat) : Int)) ++ ((putNum seq) ++ body)).length : Nat) : Int)) (by rintro _ ⟨⟩; exact Nat.le_of_ble_eq_true rfl) ?_)
      · as_aux_lemma => kernel_rfl
      rintro ⟨a10, c11⟩
      have hr12 := putNum_len ((((four ((crc ((putNum seq) ++ body) : Nat) : Int)) ++ ((putNum seq) ++ body)).length : Nat) : Int)
      refine OPC (RUNV (.convert 62 9 (.tmp 29)) 30 9 ?_ (Nat.le_of_ble_eq_true rfl) (.string (bs (putNum ((((four ((crc ((putNum seq) ++ body) : Nat) : Int)) ++ ((putNum seq) ++ body)).length : Nat) : Int)))) (runs_bstr (a := a10) (n := (putNum ((((four ((crc ((putNum seq) ++ body) : Nat) : Int)) ++ ((putNum seq) ++ body)).length : Nat) : Int)).length) (c := c11) (xs := putNum ((((four ((crc ((putNum seq) ++ body) : Nat) : Int)) ++ ((putNum seq) ++ body)).length : Nat) : Int)) (e := 5) ?_ ?_ ?_ ?_ rfl (fun w hw => (Rd.own (hw.own 2 rfl)))) ?_)
      · as_aux_lemma => kernel_rfl
      · as_aux_lemma => kernel_rfl
      · as_aux_lemma => kernel_rfl
      · as_aux_lemma => kernel_rfl
      · as_aux_lemma => kernel_rfl
      refine RUN0 1 [5, 6] [(30, .v (.string (bs (putNum ((((four ((crc ((putNum seq) ++ body) : Nat) : Int)) ++ ((putNum seq) ++ body)).length : Nat) : Int))))), (31, .v (.string (bs ((four ((crc ((putNum seq) ++ body) : Nat) : Int)) ++ ((putNum seq) ++ body)))))] ?_ rfl ?_
      · as_aux_lemma => kernel_rfl
      refine OPC (RUNV (.binOp .add 9 (.tmp 30) (.tmp 31) 9) 32 9 ?_ (Nat.le_of_ble_eq_true rfl) (.string (bs ((putNum ((((four ((crc ((putNum seq) ++ body) : Nat) : Int)) ++ ((putNum seq) ++ body)).length : Nat) : Int)) ++ ((four ((crc ((putNum seq) ++ body) : Nat) : Int)) ++ ((putNum seq) ++ body))))) (runs_scat (a := putNum ((((four ((crc ((putNum seq) ++ body) : Nat) : Int)) ++ ((putNum seq) ++ body)).length : Nat) : Int)) (b := (four ((crc ((putNum seq) ++ body) : Nat) : Int)) ++ ((putNum seq) ++ body)) ?_ ?_ (by first | omega | (simp only [List.length_append, List.length_cons, List.length_nil, List.length_take, List.length_drop] at *; omega))) ?_)
      · as_aux_lemma => kernel_rfl
      · as_aux_lemma => kernel_rfl
      · as_aux_lemma => kernel_rfl
      refine RUN0 1 [] [(4, .v (.string (bs ((putNum ((((four ((crc ((putNum seq) ++ body) : Nat) : Int)) ++ ((putNum seq) ++ body)).length : Nat) : Int)) ++ ((four ((crc ((putNum seq) ++ body) : Nat) : Int)) ++ ((putNum seq) ++ body))))))] ?_ rfl ?_
      · as_aux_lemma => kernel_rfl
      refine ENDOPS (NEXT (RET (FIN (.string (bs ((putNum ((((four ((crc ((putNum seq) ++ body) : Nat) : Int)) ++ ((putNum seq) ++ body)).length : Nat) : Int)) ++ ((four ((crc ((putNum seq) ++ body) : Nat) : Int)) ++ ((putNum seq) ++ body))))) ?_ () ?_ [] ?_)))
      · as_aux_lemma => kernel_rfl
      · simp_all [RV, frameOf, four_nat]
      · rfl

theorem iFrameOf_c (W : World) (seq : Int) (body : List UInt8) (hbd : body.length ≤ 1048576) : Spec Try.prog W [] 42 #[vi seq, .string (bs body)] (RV (.string (bs (frameOf seq body)))) := by
  refine ENTER0 (N := 44) (vs := [vi seq, .string (bs body)]) Try.func42 rfl rfl (Nat.le_of_ble_eq_true rfl) ?_
  refine SEQ (REGION [0] rfl (RUN0 1 [] [(0, I seq), (1, .v (.string (bs body)))] ?_ rfl ?_))
  · as_aux_lemma => kernel_rfl
  refine ENDOPS (NEXT (SEQ (SEQ (REGION [0, 1, 2, 3, 4, 5, 6, 7, 8] rfl (RUN0 1 [1, 2, 3, 4, 5, 6, 7, 8] [(0, I seq), (1, .v (.string (bs body))), (8, I seq)] ?_ rfl ?_)))))
  · as_aux_lemma => kernel_rfl
  refine OPC (CALL 26 #[vi seq, vi 1, vi 1000000] (some 9) ?_ [] [] _ rfl (RV (.bool (inB seq 1 1000000))) (fun w hw => within_c w seq 1 1000000) (by rintro _ ⟨⟩; exact Nat.le_of_ble_eq_true rfl) ?_)
  · as_aux_lemma => kernel_rfl
  rintro ⟨⟩
  refine RUN0 2 [4, 5, 6, 7, 8] [(0, I seq), (1, .v (.string (bs body))), (11, B (!(inB seq 1 1000000)))] ?_ rfl ?_
  · as_aux_lemma => kernel_rfl
  refine SPLIT (d := 11) (!(inB seq 1 1000000)) ?_ (fun bh1 => ?_) (fun bh1 => ?_)
  · as_aux_lemma => kernel_rfl
  · -- !(inB seq 1 1000000) = true
    have h1 := bh1
    have h1 := notT h1
    refine RUN0 5 [] [(0, I seq), (1, .v (.string (bs body))), (16, B true)] ?_ rfl ?_
    · as_aux_lemma => kernel_rfl
    refine ENDOPS (NEXT (IFT ?_ ?_))
    · as_aux_lemma => kernel_rfl
    refine SEQ (REGION [0] rfl (RUN0 1 [] [(4, .v (.string (bs ([]))))] ?_ rfl ?_))
    · as_aux_lemma => kernel_rfl
    refine ENDOPS (NEXT (RET (PASS trivial (FIN (.string (bs ([]))) ?_ () ?_ [] ?_))))
    · as_aux_lemma => kernel_rfl
    · simp_all [RV, frameOf, four_nat]
    · rfl
  · -- !(inB seq 1 1000000) = false
    have h1 := bh1
    have h1 := notF h1
    refine RUN0 2 [6, 7, 8] [(0, I seq), (1, .v (.string (bs body))), (11, B false), (13, I (body.length : Int))] ?_ rfl ?_
    · as_aux_lemma => kernel_rfl
    refine OPC (CALL 26 #[vi (body.length : Int), vi 1, vi 60] (some 14) ?_ [] [] _ rfl (RV (.bool (inB (body.length : Int) 1 60))) (fun w hw => within_c w (body.length : Int) 1 60) (by rintro _ ⟨⟩; exact Nat.le_of_ble_eq_true rfl) ?_)
    · as_aux_lemma => kernel_rfl
    rintro ⟨⟩
    refine RUN0 2 [] [(0, I seq), (1, .v (.string (bs body))), (16, B (!(inB (body.length : Int) 1 60)))] ?_ rfl ?_
    · as_aux_lemma => kernel_rfl
    refine ENDOPS (NEXT (IF (!(inB (body.length : Int) 1 60)) ?_ (fun bh2 => ?_) (fun bh2 => ?_)))
    · as_aux_lemma => kernel_rfl
    · -- !(inB (body.length : Int) 1 60) = true
      have h2 := bh2
      have h2 := notT h2
      refine SEQ (REGION [0] rfl (RUN0 1 [] [(4, .v (.string (bs ([]))))] ?_ rfl ?_))
      · as_aux_lemma => kernel_rfl
      refine ENDOPS (NEXT (RET (PASS trivial (FIN (.string (bs ([]))) ?_ () ?_ [] ?_))))
      · as_aux_lemma => kernel_rfl
      · simp_all [RV, frameOf, four_nat]
      · rfl
    · -- !(inB (body.length : Int) 1 60) = false
      have h2 := bh2
      have h2 := notF h2
      have hbl := inB_len h2
      refine SKIP (NEXT (SEQ (REGION [0, 1, 2, 3, 4] rfl (RUN0 1 [1, 2, 3, 4] [(1, .v (.string (bs body))), (17, I seq)] ?_ rfl ?_))))
      · as_aux_lemma => kernel_rfl
      refine OPC (CALL 48 #[vi seq] (some 18) ?_ [] [] _ rfl (⟨HH, fun p => .slice p.1 ((putNum seq).length) p.2, fun p => [slA 5 byteL (.slice p.1 (putNum seq).length p.2) (putNum seq)]⟩) (fun w hw => iPutNum_c w seq) (by rintro _ ⟨⟩; exact Nat.le_of_ble_eq_true rfl) ?_)
      · as_aux_lemma => kernel_rfl
      rintro ⟨a3, c4⟩
      have hr5 := putNum_len seq
      refine RUN0 1 [3, 4] [(18, .v (.slice a3 ((putNum seq).length) c4)), (19, .v (.string (bs body)))] ?_ rfl ?_
      · as_aux_lemma => kernel_rfl
      refine OPC (APPENDS 62 9 (.tmp 18) (.tmp 19) 20 62 ?_ (Nat.le_of_ble_eq_true rfl) (.slice a3 ((putNum seq).length) c4) body ?_ ?_ 5 ?_ ?_ ?_ 0 (putNum seq) _ rfl (by first | omega | (simp only [List.length_append, List.length_cons, List.length_nil, List.length_take, List.length_drop] at *; omega)) (fun a6 c7 hn8 => ?_))
      · as_aux_lemma => kernel_rfl
      · as_aux_lemma => kernel_rfl
      · as_aux_lemma => kernel_rfl
      · as_aux_lemma => kernel_rfl
      · as_aux_lemma => kernel_rfl
      · as_aux_lemma => kernel_rfl
      refine RUN0 1 [] [(5, .v (.slice a6 (((putNum seq) ++ body).length) c7))] ?_ rfl ?_
      · as_aux_lemma => kernel_rfl
      refine ENDOPS (NEXT (SEQ (REGION [0, 1, 2] rfl (RUN0 1 [1, 2] [(5, .v (.slice a6 (((putNum seq) ++ body).length) c7)), (21, .v (.slice a6 (((putNum seq) ++ body).length) c7))] ?_ rfl ?_))))
      · as_aux_lemma => kernel_rfl
      refine OPC (CALL 49 #[.slice a6 (((putNum seq) ++ body).length) c7] (some 22) ?_ [] [] _ rfl (RV (vi ((crc ((putNum seq) ++ body) : Nat) : Int))) (fun w hw => iCrc_c w ((putNum seq) ++ body) a6 c7 (Rd.own (hw.own 0 rfl))) (by rintro _ ⟨⟩; exact Nat.le_of_ble_eq_true rfl) ?_)
      · as_aux_lemma => kernel_rfl
      rintro ⟨⟩
      refine RUN0 1 [] [(5, .v (.slice a6 (((putNum seq) ++ body).length) c7)), (6, I ((crc ((putNum seq) ++ body) : Nat) : Int))] ?_ rfl ?_
      · as_aux_lemma => kernel_rfl
      refine ENDOPS (NEXT (SEQ (REGION [0, 1, 2, 3, 4, 5, 6, 7, 8, 9, 10, 11, 12, 13, 14] rfl (RUN0 2 [2, 3, 4, 5, 6, 7, 8, 9, 10, 11, 12, 13, 14] [(5, .v (.slice a6 (((putNum seq) ++ body).length) c7)), (6, I ((crc ((putNum seq) ++ body) : Nat) : Int)), (24, I (Int.fdiv ((crc ((putNum seq) ++ body) : Nat) : Int) (2 ^ 24)))] ?_ rfl ?_))))
      · as_aux_lemma => kernel_rfl
      refine CAST (d := 24) (vi (Int.fdiv ((crc ((putNum seq) ++ body) : Nat) : Int) (2 ^ 24))) (vi (((crc ((putNum seq) ++ body)) / 2 ^ 24 : Nat) : Int)) ?_ (vi_shr (crc ((putNum seq) ++ body)) 24) ?_
      · as_aux_lemma => kernel_rfl
      refine RUN0 1 [3, 4, 5, 6, 7, 8, 9, 10, 11, 12, 13, 14] [(5, .v (.slice a6 (((putNum seq) ++ body).length) c7)), (6, I ((crc ((putNum seq) ++ body) : Nat) : Int)), (25, .v (.int .u8 (IntKind.wrap .u8 (((crc ((putNum seq) ++ body)) / 2 ^ 24 : Nat) : Int))))] ?_ rfl ?_
      · as_aux_lemma => kernel_rfl
      refine CAST (d := 25) (.int .u8 (IntKind.wrap .u8 (((crc ((putNum seq) ++ body)) / 2 ^ 24 : Nat) : Int))) (.int .u8 (((byteOf (((crc ((putNum seq) ++ body)) / 2 ^ 24 : Nat) : Int)).toNat : Nat) : Int)) ?_ (v8 (((crc ((putNum seq) ++ body)) / 2 ^ 24 : Nat) : Int)) ?_
      · as_aux_lemma => kernel_rfl
      refine RUN0 2 [5, 6, 7, 8, 9, 10, 11, 12, 13, 14] [(5, .v (.slice a6 (((putNum seq) ++ body).length) c7)), (6, I ((crc ((putNum seq) ++ body) : Nat) : Int)), (25, .v (.int .u8 (((byteOf (((crc ((putNum seq) ++ body)) / 2 ^ 24 : Nat) : Int)).toNat : Nat) : Int))), (27, I (Int.fdiv ((crc ((putNum seq) ++ body) : Nat) : Int) (2 ^ 16)))] ?_ rfl ?_
      · as_aux_lemma => kernel_rfl
      refine CAST (d := 27) (vi (Int.fdiv ((crc ((putNum seq) ++ body) : Nat) : Int) (2 ^ 16))) (vi (((crc ((putNum seq) ++ body)) / 2 ^ 16 : Nat) : Int)) ?_ (vi_shr (crc ((putNum seq) ++ body)) 16) ?_
      · as_aux_lemma => kernel_rfl
      refine RUN0 1 [6, 7, 8, 9, 10, 11, 12, 13, 14] [(5, .v (.slice a6 (((putNum seq) ++ body).length) c7)), (6, I ((crc ((putNum seq) ++ body) : Nat) : Int)), (25, .v (.int .u8 (((byteOf (((crc ((putNum seq) ++ body)) / 2 ^ 24 : Nat) : Int)).toNat : Nat) : Int))), (28, .v (.int .u8 (IntKind.wrap .u8 (((crc ((putNum seq) ++ body)) / 2 ^ 16 : Nat) : Int))))] ?_ rfl ?_
      · as_aux_lemma => kernel_rfl
      refine CAST (d := 28) (.int .u8 (IntKind.wrap .u8 (((crc ((putNum seq) ++ body)) / 2 ^ 16 : Nat) : Int))) (.int .u8 (((byteOf (((crc ((putNum seq) ++ body)) / 2 ^ 16 : Nat) : Int)).toNat : Nat) : Int)) ?_ (v8 (((crc ((putNum seq) ++ body)) / 2 ^ 16 : Nat) : Int)) ?_
      · as_aux_lemma => kernel_rfl
      refine RUN0 2 [8, 9, 10, 11, 12, 13, 14] [(5, .v (.slice a6 (((putNum seq) ++ body).length) c7)), (6, I ((crc ((putNum seq) ++ body) : Nat) : Int)), (25, .v (.int .u8 (((byteOf (((crc ((putNum seq) ++ body)) / 2 ^ 24 : Nat) : Int)).toNat : Nat) : Int))), (28, .v (.int .u8 (((byteOf (((crc ((putNum seq) ++ body)) / 2 ^ 16 : Nat) : Int)).toNat : Nat) : Int))), (30, I (Int.fdiv ((crc ((putNum seq) ++ body) : Nat) : Int) (2 ^ 8)))] ?_ rfl ?_
      · as_aux_lemma => kernel_rfl
      refine CAST (d := 30) (vi (Int.fdiv ((crc ((putNum seq) ++ body) : Nat) : Int) (2 ^ 8))) (vi (((crc ((putNum seq) ++ body)) / 2 ^ 8 : Nat) : Int)) ?_ (vi_shr (crc ((putNum seq) ++ body)) 8) ?_
      · as_aux_lemma => kernel_rfl
      refine RUN0 1 [9, 10, 11, 12, 13, 14] [(5, .v (.slice a6 (((putNum seq) ++ body).length) c7)), (6, I ((crc ((putNum seq) ++ body) : Nat) : Int)), (25, .v (.int .u8 (((byteOf (((crc ((putNum seq) ++ body)) / 2 ^ 24 : Nat) : Int)).toNat : Nat) : Int))), (28, .v (.int .u8 (((byteOf (((crc ((putNum seq) ++ body)) / 2 ^ 16 : Nat) : Int)).toNat : Nat) : Int))), (31, .v (.int .u8 (IntKind.wrap .u8 (((crc ((putNum seq) ++ body)) / 2 ^ 8 : Nat) : Int))))] ?_ rfl ?_
      · as_aux_lemma => kernel_rfl
      refine CAST (d := 31) (.int .u8 (IntKind.wrap .u8 (((crc ((putNum seq) ++ body)) / 2 ^ 8 : Nat) : Int))) (.int .u8 (((byteOf (((crc ((putNum seq) ++ body)) / 2 ^ 8 : Nat) : Int)).toNat : Nat) : Int)) ?_ (v8 (((crc ((putNum seq) ++ body)) / 2 ^ 8 : Nat) : Int)) ?_
      · as_aux_lemma => kernel_rfl
      refine RUN0 2 [11, 12, 13, 14] [(5, .v (.slice a6 (((putNum seq) ++ body).length) c7)), (25, .v (.int .u8 (((byteOf (((crc ((putNum seq) ++ body)) / 2 ^ 24 : Nat) : Int)).toNat : Nat) : Int))), (28, .v (.int .u8 (((byteOf (((crc ((putNum seq) ++ body)) / 2 ^ 16 : Nat) : Int)).toNat : Nat) : Int))), (31, .v (.int .u8 (((byteOf (((crc ((putNum seq) ++ body)) / 2 ^ 8 : Nat) : Int)).toNat : Nat) : Int))), (33, .v (.int .u8 (IntKind.wrap .u8 ((crc ((putNum seq) ++ body) : Nat) : Int))))] ?_ rfl ?_
      · as_aux_lemma => kernel_rfl
      refine CAST (d := 33) (.int .u8 (IntKind.wrap .u8 ((crc ((putNum seq) ++ body) : Nat) : Int))) (.int .u8 (((byteOf ((crc ((putNum seq) ++ body) : Nat) : Int)).toNat : Nat) : Int)) ?_ (v8 ((crc ((putNum seq) ++ body) : Nat) : Int)) ?_
      · as_aux_lemma => kernel_rfl
      refine OPC (BUILDS 62 4 #[(0, .tmp 25), (1, .tmp 28), (2, .tmp 31), (3, .tmp 33)] 34 62 ?_ (Nat.le_of_ble_eq_true rfl) 5 [.int .u8 (((byteOf (((crc ((putNum seq) ++ body)) / 2 ^ 24 : Nat) : Int)).toNat : Nat) : Int), .int .u8 (((byteOf (((crc ((putNum seq) ++ body)) / 2 ^ 16 : Nat) : Int)).toNat : Nat) : Int), .int .u8 (((byteOf (((crc ((putNum seq) ++ body)) / 2 ^ 8 : Nat) : Int)).toNat : Nat) : Int), .int .u8 (((byteOf ((crc ((putNum seq) ++ body) : Nat) : Int)).toNat : Nat) : Int)] ?_ byteL [byteOf (((crc ((putNum seq) ++ body)) / 2 ^ 24 : Nat) : Int), byteOf (((crc ((putNum seq) ++ body)) / 2 ^ 16 : Nat) : Int), byteOf (((crc ((putNum seq) ++ body)) / 2 ^ 8 : Nat) : Int), byteOf ((crc ((putNum seq) ++ body) : Nat) : Int)] rfl (by simp only [maxLen]; omega) [] [] _ rfl (flatRep rfl) (fun a9 ha10 => ?_))
      · as_aux_lemma => kernel_rfl
      · as_aux_lemma => kernel_rfl
      refine RUN0 1 [13, 14] [(34, .v (.slice a9 4 4)), (35, .v (.slice a6 (((putNum seq) ++ body).length) c7))] ?_ rfl ?_
      · as_aux_lemma => kernel_rfl
      refine OPC (APPENDR 62 (.tmp 34) (.tmp 35) 36 62 ?_ (Nat.le_of_ble_eq_true rfl) (.slice a9 4 4) a6 (((putNum seq) ++ body).length) c7 ?_ ?_ 5 ?_ (.int .u8 0) 1 ?_ rfl (by decide) 1 ([byteOf (((crc ((putNum seq) ++ body)) / 2 ^ 24 : Nat) : Int), byteOf (((crc ((putNum seq) ++ body)) / 2 ^ 16 : Nat) : Int), byteOf (((crc ((putNum seq) ++ body)) / 2 ^ 8 : Nat) : Int), byteOf ((crc ((putNum seq) ++ body) : Nat) : Int)]) ((putNum seq) ++ body) _ rfl rfl (fun w hw => (Rd.own (hw.own 0 rfl))) (by first | omega | (simp only [List.length_append, List.length_cons, List.length_nil, List.length_take, List.length_drop] at *; omega)) (by simp only [maxLen]; first | omega | (simp only [List.length_append, List.length_cons, List.length_nil, List.length_take, List.length_drop] at *; omega)) (fun a11 c12 hn13 => ?_))
      · as_aux_lemma => kernel_rfl
      · as_aux_lemma => kernel_rfl
      · as_aux_lemma => kernel_rfl
      · as_aux_lemma => kernel_rfl
      · as_aux_lemma => kernel_rfl
      refine RUN0 1 [] [(7, .v (.slice a11 ((([byteOf (((crc ((putNum seq) ++ body)) / 2 ^ 24 : Nat) : Int), byteOf (((crc ((putNum seq) ++ body)) / 2 ^ 16 : Nat) : Int), byteOf (((crc ((putNum seq) ++ body)) / 2 ^ 8 : Nat) : Int), byteOf ((crc ((putNum seq) ++ body) : Nat) : Int)]) ++ ((putNum seq) ++ body)).length) c12))] ?_ rfl ?_
      · as_aux_lemma => kernel_rfl
      refine ENDOPS (NEXT (SEQ (REGIOND ?_ 8 rfl ?_)))
      · as_aux_lemma => kernel_rfl
      refine ANY2 0 4 ?_ ?_ ?_
      · as_aux_lemma => kernel_rfl
      · -- operation 0 next
        refine RUNO [(7, .v (.slice a11 ((([byteOf (((crc ((putNum seq) ++ body)) / 2 ^ 24 : Nat) : Int), byteOf (((crc ((putNum seq) ++ body)) / 2 ^ 16 : Nat) : Int), byteOf (((crc ((putNum seq) ++ body)) / 2 ^ 8 : Nat) : Int), byteOf ((crc ((putNum seq) ++ body) : Nat) : Int)]) ++ ((putNum seq) ++ body)).length) c12)), (37, .v (.slice a11 ((([byteOf (((crc ((putNum seq) ++ body)) / 2 ^ 24 : Nat) : Int), byteOf (((crc ((putNum seq) ++ body)) / 2 ^ 16 : Nat) : Int), byteOf (((crc ((putNum seq) ++ body)) / 2 ^ 8 : Nat) : Int), byteOf ((crc ((putNum seq) ++ body) : Nat) : Int)]) ++ ((putNum seq) ++ body)).length) c12))] [] ?_ ?_
        · as_aux_lemma => kernel_rfl
        refine ANY2 1 4 ?_ ?_ ?_
        · as_aux_lemma => kernel_rfl
        · -- operation 1 next
          refine RUNO [(7, .v (.slice a11 ((([byteOf (((crc ((putNum seq) ++ body)) / 2 ^ 24 : Nat) : Int), byteOf (((crc ((putNum seq) ++ body)) / 2 ^ 16 : Nat) : Int), byteOf (((crc ((putNum seq) ++ body)) / 2 ^ 8 : Nat) : Int), byteOf ((crc ((putNum seq) ++ body) : Nat) : Int)]) ++ ((putNum seq) ++ body)).length) c12)), (38, I (((([byteOf (((crc ((putNum seq) ++ body)) / 2 ^ 24 : Nat) : Int), byteOf (((crc ((putNum seq) ++ body)) / 2 ^ 16 : Nat) : Int), byteOf (((crc ((putNum seq) ++ body)) / 2 ^ 8 : Nat) : Int), byteOf ((crc ((putNum seq) ++ body) : Nat) : Int)]) ++ ((putNum seq) ++ body)).length : Nat) : Int))] [] ?_ ?_
          · as_aux_lemma => kernel_rfl
          refine ANY2 2 4 ?_ ?_ ?_
          · as_aux_lemma => kernel_rfl
          · -- operation 2 next
            refine CALL 48 #[vi (((([byteOf (((crc ((putNum seq) ++ body)) / 2 ^ 24 : Nat) : Int), byteOf (((crc ((putNum seq) ++ body)) / 2 ^ 16 : Nat) : Int), byteOf (((crc ((putNum seq) ++ body)) / 2 ^ 8 : Nat) : Int), byteOf ((crc ((putNum seq) ++ body) : Nat) : Int)]) ++ ((putNum seq) ++ body)).length : Nat) : Int)] (some 39) ?_ [] [] _ rfl (⟨HH, fun p => .slice p.1 ((putNum (((([byteOf (((crc ((putNum seq) ++ body)) / 2 ^ 24 : Nat) : Int), byteOf (((crc ((putNum seq) ++ body)) / 2 ^ 16 : Nat) : Int), byteOf (((crc ((putNum seq) ++ body)) / 2 ^ 8 : Nat) : Int), byteOf ((crc ((putNum seq) ++ body) : Nat) : Int)]) ++ ((putNum seq) ++ body)).length : Nat) : Int)).length) p.2, fun p => [slA 5 byteL (.slice p.1 (putNum (((([byteOf (((crc ((putNum seq) ++ body)) / 2 ^ 24 : Nat) : Int), byteOf (((crc ((putNum seq) ++ body)) / 2 ^ 16 : Nat) : Int), byteOf (((crc ((putNum seq) ++ body)) / 2 ^ 8 : Nat) : Int), byteOf ((crc ((putNum seq) ++ body) : Nat) : Int)]) ++ ((putNum seq) ++ body)).length : Nat) : Int)).length p.2) (putNum (((([byteOf (((crc ((putNum seq) ++ body)) / 2 ^ 24 : Nat) : Int), byteOf (((crc ((putNum seq) ++ body)) / 2 ^ 16 : Nat) : Int), byteOf (((crc ((putNum seq) ++ body)) / 2 ^ 8 : Nat) : Int), byteOf ((crc ((putNum seq) ++ body) : Nat) : Int)]) ++ ((putNum seq) ++ body)).length : Nat) : Int))]⟩) (fun w hw => iPutNum_c w (((([byteOf (((crc ((putNum seq) ++ body)) / 2 ^ 24 : Nat) : Int), byteOf (((crc ((putNum seq) ++ body)) / 2 ^ 16 : Nat) : Int), byteOf (((crc ((putNum seq) ++ body)) / 2 ^ 8 : Nat) : Int), byteOf ((crc ((putNum seq) ++ body) : Nat) : Int)]) ++ ((putNum seq) ++ body)).length : Nat) : Int)) (by rintro _ ⟨⟩; exact Nat.le_of_ble_eq_true rfl) ?_
            · as_aux_lemma => kernel_rfl
            rintro ⟨a14, c15⟩
            have hr16 := putNum_len (((([byteOf (((crc ((putNum seq) ++ body)) / 2 ^ 24 : Nat) : Int), byteOf (((crc ((putNum seq) ++ body)) / 2 ^ 16 : Nat) : Int), byteOf (((crc ((putNum seq) ++ body)) / 2 ^ 8 : Nat) : Int), byteOf ((crc ((putNum seq) ++ body) : Nat) : Int)]) ++ ((putNum seq) ++ body)).length : Nat) : Int)
            refine ANY2 3 4 ?_ ?_ ?_
            · as_aux_lemma => kernel_rfl
            · -- operation 3 next
              refine RUNV (.convert 62 9 (.tmp 39)) 40 9 ?_ (Nat.le_of_ble_eq_true rfl) (.string (bs (putNum (((([byteOf (((crc ((putNum seq) ++ body)) / 2 ^ 24 : Nat) : Int), byteOf (((crc ((putNum seq) ++ body)) / 2 ^ 16 : Nat) : Int), byteOf (((crc ((putNum seq) ++ body)) / 2 ^ 8 : Nat) : Int), byteOf ((crc ((putNum seq) ++ body) : Nat) : Int)]) ++ ((putNum seq) ++ body)).length : Nat) : Int)))) (runs_bstr (a := a14) (n := (putNum (((([byteOf (((crc ((putNum seq) ++ body)) / 2 ^ 24 : Nat) : Int), byteOf (((crc ((putNum seq) ++ body)) / 2 ^ 16 : Nat) : Int), byteOf (((crc ((putNum seq) ++ body)) / 2 ^ 8 : Nat) : Int), byteOf ((crc ((putNum seq) ++ body) : Nat) : Int)]) ++ ((putNum seq) ++ body)).length : Nat) : Int)).length) (c := c15) (xs := putNum (((([byteOf (((crc ((putNum seq) ++ body)) / 2 ^ 24 : Nat) : Int), byteOf (((crc ((putNum seq) ++ body)) / 2 ^ 16 : Nat) : Int), byteOf (((crc ((putNum seq) ++ body)) / 2 ^ 8 : Nat) : Int), byteOf ((crc ((putNum seq) ++ body) : Nat) : Int)]) ++ ((putNum seq) ++ body)).length : Nat) : Int)) (e := 5) ?_ ?_ ?_ ?_ rfl (fun w hw => (Rd.own (hw.own 2 rfl)))) ?_
              · as_aux_lemma => kernel_rfl
              · as_aux_lemma => kernel_rfl
              · as_aux_lemma => kernel_rfl
              · as_aux_lemma => kernel_rfl
              · as_aux_lemma => kernel_rfl
              refine ANY1 4 ?_ ?_
              · as_aux_lemma => kernel_rfl
              refine RUNO [(40, .v (.string (bs (putNum (((([byteOf (((crc ((putNum seq) ++ body)) / 2 ^ 24 : Nat) : Int), byteOf (((crc ((putNum seq) ++ body)) / 2 ^ 16 : Nat) : Int), byteOf (((crc ((putNum seq) ++ body)) / 2 ^ 8 : Nat) : Int), byteOf ((crc ((putNum seq) ++ body) : Nat) : Int)]) ++ ((putNum seq) ++ body)).length : Nat) : Int))))), (41, .v (.slice a11 ((([byteOf (((crc ((putNum seq) ++ body)) / 2 ^ 24 : Nat) : Int), byteOf (((crc ((putNum seq) ++ body)) / 2 ^ 16 : Nat) : Int), byteOf (((crc ((putNum seq) ++ body)) / 2 ^ 8 : Nat) : Int), byteOf ((crc ((putNum seq) ++ body) : Nat) : Int)]) ++ ((putNum seq) ++ body)).length) c12))] [] ?_ ?_
              · as_aux_lemma => kernel_rfl
              refine ANY1 5 ?_ ?_
              · as_aux_lemma => kernel_rfl
              refine RUNV (.convert 62 9 (.tmp 41)) 42 9 ?_ (Nat.le_of_ble_eq_true rfl) (.string (bs (([byteOf (((crc ((putNum seq) ++ body)) / 2 ^ 24 : Nat) : Int), byteOf (((crc ((putNum seq) ++ body)) / 2 ^ 16 : Nat) : Int), byteOf (((crc ((putNum seq) ++ body)) / 2 ^ 8 : Nat) : Int), byteOf ((crc ((putNum seq) ++ body) : Nat) : Int)]) ++ ((putNum seq) ++ body)))) (runs_bstr (a := a11) (n := (([byteOf (((crc ((putNum seq) ++ body)) / 2 ^ 24 : Nat) : Int), byteOf (((crc ((putNum seq) ++ body)) / 2 ^ 16 : Nat) : Int), byteOf (((crc ((putNum seq) ++ body)) / 2 ^ 8 : Nat) : Int), byteOf ((crc ((putNum seq) ++ body) : Nat) : Int)]) ++ ((putNum seq) ++ body)).length) (c := c12) (xs := ([byteOf (((crc ((putNum seq) ++ body)) / 2 ^ 24 : Nat) : Int), byteOf (((crc ((putNum seq) ++ body)) / 2 ^ 16 : Nat) : Int), byteOf (((crc ((putNum seq) ++ body)) / 2 ^ 8 : Nat) : Int), byteOf ((crc ((putNum seq) ++ body) : Nat) : Int)]) ++ ((putNum seq) ++ body)) (e := 5) ?_ ?_ ?_ ?_ rfl (fun w hw => (Rd.own (hw.own 1 rfl)))) ?_
              · as_aux_lemma => kernel_rfl
              · as_aux_lemma => kernel_rfl
              · as_aux_lemma => kernel_rfl
              · as_aux_lemma => kernel_rfl
              · as_aux_lemma => kernel_rfl
              refine ANY1 6 ?_ ?_
              · as_aux_lemma => kernel_rfl
              refine RUNV (.binOp .add 9 (.tmp 40) (.tmp 42) 9) 43 9 ?_ (Nat.le_of_ble_eq_true rfl) (.string (bs ((putNum (((([byteOf (((crc ((putNum seq) ++ body)) / 2 ^ 24 : Nat) : Int), byteOf (((crc ((putNum seq) ++ body)) / 2 ^ 16 : Nat) : Int), byteOf (((crc ((putNum seq) ++ body)) / 2 ^ 8 : Nat) : Int), byteOf ((crc ((putNum seq) ++ body) : Nat) : Int)]) ++ ((putNum seq) ++ body)).length : Nat) : Int)) ++ (([byteOf (((crc ((putNum seq) ++ body)) / 2 ^ 24 : Nat) : Int), byteOf (((crc ((putNum seq) ++ body)) / 2 ^ 16 : Nat) : Int), byteOf (((crc ((putNum seq) ++ body)) / 2 ^ 8 : Nat) : Int), byteOf ((crc ((putNum seq) ++ body) : Nat) : Int)]) ++ ((putNum seq) ++ body))))) (runs_scat (a := putNum (((([byteOf (((crc ((putNum seq) ++ body)) / 2 ^ 24 : Nat) : Int), byteOf (((crc ((putNum seq) ++ body)) / 2 ^ 16 : Nat) : Int), byteOf (((crc ((putNum seq) ++ body)) / 2 ^ 8 : Nat) : Int), byteOf ((crc ((putNum seq) ++ body) : Nat) : Int)]) ++ ((putNum seq) ++ body)).length : Nat) : Int)) (b := ([byteOf (((crc ((putNum seq) ++ body)) / 2 ^ 24 : Nat) : Int), byteOf (((crc ((putNum seq) ++ body)) / 2 ^ 16 : Nat) : Int), byteOf (((crc ((putNum seq) ++ body)) / 2 ^ 8 : Nat) : Int), byteOf ((crc ((putNum seq) ++ body) : Nat) : Int)]) ++ ((putNum seq) ++ body)) ?_ ?_ (by first | omega | (simp only [List.length_append, List.length_cons, List.length_nil, List.length_take, List.length_drop] at *; omega))) ?_
              · as_aux_lemma => kernel_rfl
              · as_aux_lemma => kernel_rfl
              · as_aux_lemma => kernel_rfl
              refine ANY1 7 ?_ ?_
              · as_aux_lemma => kernel_rfl
              refine RUNO [(4, .v (.string (bs ((putNum (((([byteOf (((crc ((putNum seq) ++ body)) / 2 ^ 24 : Nat) : Int), byteOf (((crc ((putNum seq) ++ body)) / 2 ^ 16 : Nat) : Int), byteOf (((crc ((putNum seq) ++ body)) / 2 ^ 8 : Nat) : Int), byteOf ((crc ((putNum seq) ++ body) : Nat) : Int)]) ++ ((putNum seq) ++ body)).length : Nat) : Int)) ++ (([byteOf (((crc ((putNum seq) ++ body)) / 2 ^ 24 : Nat) : Int), byteOf (((crc ((putNum seq) ++ body)) / 2 ^ 16 : Nat) : Int), byteOf (((crc ((putNum seq) ++ body)) / 2 ^ 8 : Nat) : Int), byteOf ((crc ((putNum seq) ++ body) : Nat) : Int)]) ++ ((putNum seq) ++ body))))))] [] ?_ ?_
              · as_aux_lemma => kernel_rfl
              refine ANYEND ?_ ?_
              · as_aux_lemma => kernel_rfl
              refine NEXT (RET (FIN (.string (bs ((putNum (((([byteOf (((crc ((putNum seq) ++ body)) / 2 ^ 24 : Nat) : Int), byteOf (((crc ((putNum seq) ++ body)) / 2 ^ 16 : Nat) : Int), byteOf (((crc ((putNum seq) ++ body)) / 2 ^ 8 : Nat) : Int), byteOf ((crc ((putNum seq) ++ body) : Nat) : Int)]) ++ ((putNum seq) ++ body)).length : Nat) : Int)) ++ (([byteOf (((crc ((putNum seq) ++ body)) / 2 ^ 24 : Nat) : Int), byteOf (((crc ((putNum seq) ++ body)) / 2 ^ 16 : Nat) : Int), byteOf (((crc ((putNum seq) ++ body)) / 2 ^ 8 : Nat) : Int), byteOf ((crc ((putNum seq) ++ body) : Nat) : Int)]) ++ ((putNum seq) ++ body))))) ?_ () ?_ [] ?_))
              · as_aux_lemma => kernel_rfl
              · simp_all [RV, frameOf, four_nat]
              · rfl
            · -- operation 4 next
              refine RUNO [(39, .v (.slice a14 ((putNum (((([byteOf (((crc ((putNum seq) ++ body)) / 2 ^ 24 : Nat) : Int), byteOf (((crc ((putNum seq) ++ body)) / 2 ^ 16 : Nat) : Int), byteOf (((crc ((putNum seq) ++ body)) / 2 ^ 8 : Nat) : Int), byteOf ((crc ((putNum seq) ++ body) : Nat) : Int)]) ++ ((putNum seq) ++ body)).length : Nat) : Int)).length) c15)), (41, .v (.slice a11 ((([byteOf (((crc ((putNum seq) ++ body)) / 2 ^ 24 : Nat) : Int), byteOf (((crc ((putNum seq) ++ body)) / 2 ^ 16 : Nat) : Int), byteOf (((crc ((putNum seq) ++ body)) / 2 ^ 8 : Nat) : Int), byteOf ((crc ((putNum seq) ++ body) : Nat) : Int)]) ++ ((putNum seq) ++ body)).length) c12))] [] ?_ ?_
              · as_aux_lemma => kernel_rfl
              refine ANY2 3 5 ?_ ?_ ?_
              · as_aux_lemma => kernel_rfl
              · -- operation 3 next
                refine RUNV (.convert 62 9 (.tmp 39)) 40 9 ?_ (Nat.le_of_ble_eq_true rfl) (.string (bs (putNum (((([byteOf (((crc ((putNum seq) ++ body)) / 2 ^ 24 : Nat) : Int), byteOf (((crc ((putNum seq) ++ body)) / 2 ^ 16 : Nat) : Int), byteOf (((crc ((putNum seq) ++ body)) / 2 ^ 8 : Nat) : Int), byteOf ((crc ((putNum seq) ++ body) : Nat) : Int)]) ++ ((putNum seq) ++ body)).length : Nat) : Int)))) (runs_bstr (a := a14) (n := (putNum (((([byteOf (((crc ((putNum seq) ++ body)) / 2 ^ 24 : Nat) : Int), byteOf (((crc ((putNum seq) ++ body)) / 2 ^ 16 : Nat) : Int), byteOf (((crc ((putNum seq) ++ body)) / 2 ^ 8 : Nat) : Int), byteOf ((crc ((putNum seq) ++ body) : Nat) : Int)]) ++ ((putNum seq) ++ body)).length : Nat) : Int)).length) (c := c15) (xs := putNum (((([byteOf (((crc ((putNum seq) ++ body)) / 2 ^ 24 : Nat) : Int), byteOf (((crc ((putNum seq) ++ body)) / 2 ^ 16 : Nat) : Int), byteOf (((crc ((putNum seq) ++ body)) / 2 ^ 8 : Nat) : Int), byteOf ((crc ((putNum seq) ++ body) : Nat) : Int)]) ++ ((putNum seq) ++ body)).length : Nat) : Int)) (e := 5) ?_ ?_ ?_ ?_ rfl (fun w hw => (Rd.own (hw.own 2 rfl)))) ?_
                · as_aux_lemma => kernel_rfl
                · as_aux_lemma => kernel_rfl
                · as_aux_lemma => kernel_rfl
                · as_aux_lemma => kernel_rfl
                · as_aux_lemma => kernel_rfl
                refine ANY1 5 ?_ ?_
                · as_aux_lemma => kernel_rfl
                refine RUNV (.convert 62 9 (.tmp 41)) 42 9 ?_ (Nat.le_of_ble_eq_true rfl) (.string (bs (([byteOf (((crc ((putNum seq) ++ body)) / 2 ^ 24 : Nat) : Int), byteOf (((crc ((putNum seq) ++ body)) / 2 ^ 16 : Nat) : Int), byteOf (((crc ((putNum seq) ++ body)) / 2 ^ 8 : Nat) : Int), byteOf ((crc ((putNum seq) ++ body) : Nat) : Int)]) ++ ((putNum seq) ++ body)))) (runs_bstr (a := a11) (n := (([byteOf (((crc ((putNum seq) ++ body)) / 2 ^ 24 : Nat) : Int), byteOf (((crc ((putNum seq) ++ body)) / 2 ^ 16 : Nat) : Int), byteOf (((crc ((putNum seq) ++ body)) / 2 ^ 8 : Nat) : Int), byteOf ((crc ((putNum seq) ++ body) : Nat) : Int)]) ++ ((putNum seq) ++ body)).length) (c := c12) (xs := ([byteOf (((crc ((putNum seq) ++ body)) / 2 ^ 24 : Nat) : Int), byteOf (((crc ((putNum seq) ++ body)) / 2 ^ 16 : Nat) : Int), byteOf (((crc ((putNum seq) ++ body)) / 2 ^ 8 : Nat) : Int), byteOf ((crc ((putNum seq) ++ body) : Nat) : Int)]) ++ ((putNum seq) ++ body)) (e := 5) ?_ ?_ ?_ ?_ rfl (fun w hw => (Rd.own (hw.own 1 rfl)))) ?_
                · as_aux_lemma => kernel_rfl
                · as_aux_lemma => kernel_rfl
                · as_aux_lemma => kernel_rfl
                · as_aux_lemma => kernel_rfl
                · as_aux_lemma => kernel_rfl
                refine ANY1 6 ?_ ?_
                · as_aux_lemma => kernel_rfl
                refine RUNV (.binOp .add 9 (.tmp 40) (.tmp 42) 9) 43 9 ?_ (Nat.le_of_ble_eq_true rfl) (.string (bs ((putNum (((([byteOf (((crc ((putNum seq) ++ body)) / 2 ^ 24 : Nat) : Int), byteOf (((crc ((putNum seq) ++ body)) / 2 ^ 16 : Nat) : Int), byteOf (((crc ((putNum seq) ++ body)) / 2 ^ 8 : Nat) : Int), byteOf ((crc ((putNum seq) ++ body) : Nat) : Int)]) ++ ((putNum seq) ++ body)).length : Nat) : Int)) ++ (([byteOf (((crc ((putNum seq) ++ body)) / 2 ^ 24 : Nat) : Int), byteOf (((crc ((putNum seq) ++ body)) / 2 ^ 16 : Nat) : Int), byteOf (((crc ((putNum seq) ++ body)) / 2 ^ 8 : Nat) : Int), byteOf ((crc ((putNum seq) ++ body) : Nat) : Int)]) ++ ((putNum seq) ++ body))))) (runs_scat (a := putNum (((([byteOf (((crc ((putNum seq) ++ body)) / 2 ^ 24 : Nat) : Int), byteOf (((crc ((putNum seq) ++ body)) / 2 ^ 16 : Nat) : Int), byteOf (((crc ((putNum seq) ++ body)) / 2 ^ 8 : Nat) : Int), byteOf ((crc ((putNum seq) ++ body) : Nat) : Int)]) ++ ((putNum seq) ++ body)).length : Nat) : Int)) (b := ([byteOf (((crc ((putNum seq) ++ body)) / 2 ^ 24 : Nat) : Int), byteOf (((crc ((putNum seq) ++ body)) / 2 ^ 16 : Nat) : Int), byteOf (((crc ((putNum seq) ++ body)) / 2 ^ 8 : Nat) : Int), byteOf ((crc ((putNum seq) ++ body) : Nat) : Int)]) ++ ((putNum seq) ++ body)) ?_ ?_ (by first | omega | (simp only [List.length_append, List.length_cons, List.length_nil, List.length_take, List.length_drop] at *; omega))) ?_
                · as_aux_lemma => kernel_rfl
                · as_aux_lemma => kernel_rfl
                · as_aux_lemma => kernel_rfl
                refine ANY1 7 ?_ ?_
                · as_aux_lemma => kernel_rfl
                refine RUNO [(4, .v (.string (bs ((putNum (((([byteOf (((crc ((putNum seq) ++ body)) / 2 ^ 24 : Nat) : Int), byteOf (((crc ((putNum seq) ++ body)) / 2 ^ 16 : Nat) : Int), byteOf (((crc ((putNum seq) ++ body)) / 2 ^ 8 : Nat) : Int), byteOf ((crc ((putNum seq) ++ body) : Nat) : Int)]) ++ ((putNum seq) ++ body)).length : Nat) : Int)) ++ (([byteOf (((crc ((putNum seq) ++ body)) / 2 ^ 24 : Nat) : Int), byteOf (((crc ((putNum seq) ++ body)) / 2 ^ 16 : Nat) : Int), byteOf (((crc ((putNum seq) ++ body)) / 2 ^ 8 : Nat) : Int), byteOf ((crc ((putNum seq) ++ body) : Nat) : Int)]) ++ ((putNum seq) ++ body))))))] [] ?_ ?_
                · as_aux_lemma => kernel_rfl
                refine ANYEND ?_ ?_
                · as_aux_lemma => kernel_rfl
                refine NEXT (RET (FIN (.string (bs ((putNum (((([byteOf (((crc ((putNum seq) ++ body)) / 2 ^ 24 : Nat) : Int), byteOf (((crc ((putNum seq) ++ body)) / 2 ^ 16 : Nat) : Int), byteOf (((crc ((putNum seq) ++ body)) / 2 ^ 8 : Nat) : Int), byteOf ((crc ((putNum seq) ++ body) : Nat) : Int)]) ++ ((putNum seq) ++ body)).length : Nat) : Int)) ++ (([byteOf (((crc ((putNum seq) ++ body)) / 2 ^ 24 : Nat) : Int), byteOf (((crc ((putNum seq) ++ body)) / 2 ^ 16 : Nat) : Int), byteOf (((crc ((putNum seq) ++ body)) / 2 ^ 8 : Nat) : Int), byteOf ((crc ((putNum seq) ++ body) : Nat) : Int)]) ++ ((putNum seq) ++ body))))) ?_ () ?_ [] ?_))
                · as_aux_lemma => kernel_rfl
                · simp_all [RV, frameOf, four_nat]
                · rfl
              · -- operation 5 next
                refine RUNV (.convert 62 9 (.tmp 41)) 42 9 ?_ (Nat.le_of_ble_eq_true rfl) (.string (bs (([byteOf (((crc ((putNum seq) ++ body)) / 2 ^ 24 : Nat) : Int), byteOf (((crc ((putNum seq) ++ body)) / 2 ^ 16 : Nat) : Int), byteOf (((crc ((putNum seq) ++ body)) / 2 ^ 8 : Nat) : Int), byteOf ((crc ((putNum seq) ++ body) : Nat) : Int)]) ++ ((putNum seq) ++ body)))) (runs_bstr (a := a11) (n := (([byteOf (((crc ((putNum seq) ++ body)) / 2 ^ 24 : Nat) : Int), byteOf (((crc ((putNum seq) ++ body)) / 2 ^ 16 : Nat) : Int), byteOf (((crc ((putNum seq) ++ body)) / 2 ^ 8 : Nat) : Int), byteOf ((crc ((putNum seq) ++ body) : Nat) : Int)]) ++ ((putNum seq) ++ body)).length) (c := c12) (xs := ([byteOf (((crc ((putNum seq) ++ body)) / 2 ^ 24 : Nat) : Int), byteOf (((crc ((putNum seq) ++ body)) / 2 ^ 16 : Nat) : Int), byteOf (((crc ((putNum seq) ++ body)) / 2 ^ 8 : Nat) : Int), byteOf ((crc ((putNum seq) ++ body) : Nat) : Int)]) ++ ((putNum seq) ++ body)) (e := 5) ?_ ?_ ?_ ?_ rfl (fun w hw => (Rd.own (hw.own 1 rfl)))) ?_
                · as_aux_lemma => kernel_rfl
                · as_aux_lemma => kernel_rfl
                · as_aux_lemma => kernel_rfl
                · as_aux_lemma => kernel_rfl
                · as_aux_lemma => kernel_rfl
                refine ANY1 3 ?_ ?_
                · as_aux_lemma => kernel_rfl
                refine RUNV (.convert 62 9 (.tmp 39)) 40 9 ?_ (Nat.le_of_ble_eq_true rfl) (.string (bs (putNum (((([byteOf (((crc ((putNum seq) ++ body)) / 2 ^ 24 : Nat) : Int), byteOf (((crc ((putNum seq) ++ body)) / 2 ^ 16 : Nat) : Int), byteOf (((crc ((putNum seq) ++ body)) / 2 ^ 8 : Nat) : Int), byteOf ((crc ((putNum seq) ++ body) : Nat) : Int)]) ++ ((putNum seq) ++ body)).length : Nat) : Int)))) (runs_bstr (a := a14) (n := (putNum (((([byteOf (((crc ((putNum seq) ++ body)) / 2 ^ 24 : Nat) : Int), byteOf (((crc ((putNum seq) ++ body)) / 2 ^ 16 : Nat) : Int), byteOf (((crc ((putNum seq) ++ body)) / 2 ^ 8 : Nat) : Int), byteOf ((crc ((putNum seq) ++ body) : Nat) : Int)]) ++ ((putNum seq) ++ body)).length : Nat) : Int)).length) (c := c15) (xs := putNum (((([byteOf (((crc ((putNum seq) ++ body)) / 2 ^ 24 : Nat) : Int), byteOf (((crc ((putNum seq) ++ body)) / 2 ^ 16 : Nat) : Int), byteOf (((crc ((putNum seq) ++ body)) / 2 ^ 8 : Nat) : Int), byteOf ((crc ((putNum seq) ++ body) : Nat) : Int)]) ++ ((putNum seq) ++ body)).length : Nat) : Int)) (e := 5) ?_ ?_ ?_ ?_ rfl (fun w hw => (Rd.own (hw.own 2 rfl)))) ?_
                · as_aux_lemma => kernel_rfl
                · as_aux_lemma => kernel_rfl
                · as_aux_lemma => kernel_rfl
                · as_aux_lemma => kernel_rfl
                · as_aux_lemma => kernel_rfl
                refine ANY1 6 ?_ ?_
                · as_aux_lemma => kernel_rfl
                refine RUNV (.binOp .add 9 (.tmp 40) (.tmp 42) 9) 43 9 ?_ (Nat.le_of_ble_eq_true rfl) (.string (bs ((putNum (((([byteOf (((crc ((putNum seq) ++ body)) / 2 ^ 24 : Nat) : Int), byteOf (((crc ((putNum seq) ++ body)) / 2 ^ 16 : Nat) : Int), byteOf (((crc ((putNum seq) ++ body)) / 2 ^ 8 : Nat) : Int), byteOf ((crc ((putNum seq) ++ body) : Nat) : Int)]) ++ ((putNum seq) ++ body)).length : Nat) : Int)) ++ (([byteOf (((crc ((putNum seq) ++ body)) / 2 ^ 24 : Nat) : Int), byteOf (((crc ((putNum seq) ++ body)) / 2 ^ 16 : Nat) : Int), byteOf (((crc ((putNum seq) ++ body)) / 2 ^ 8 : Nat) : Int), byteOf ((crc ((putNum seq) ++ body) : Nat) : Int)]) ++ ((putNum seq) ++ body))))) (runs_scat (a := putNum (((([byteOf (((crc ((putNum seq) ++ body)) / 2 ^ 24 : Nat) : Int), byteOf (((crc ((putNum seq) ++ body)) / 2 ^ 16 : Nat) : Int), byteOf (((crc ((putNum seq) ++ body)) / 2 ^ 8 : Nat) : Int), byteOf ((crc ((putNum seq) ++ body) : Nat) : Int)]) ++ ((putNum seq) ++ body)).length : Nat) : Int)) (b := ([byteOf (((crc ((putNum seq) ++ body)) / 2 ^ 24 : Nat) : Int), byteOf (((crc ((putNum seq) ++ body)) / 2 ^ 16 : Nat) : Int), byteOf (((crc ((putNum seq) ++ body)) / 2 ^ 8 : Nat) : Int), byteOf ((crc ((putNum seq) ++ body) : Nat) : Int)]) ++ ((putNum seq) ++ body)) ?_ ?_ (by first | omega | (simp only [List.length_append, List.length_cons, List.length_nil, List.length_take, List.length_drop] at *; omega))) ?_
                · as_aux_lemma => kernel_rfl
                · as_aux_lemma => kernel_rfl
                · as_aux_lemma => kernel_rfl
                refine ANY1 7 ?_ ?_
                · as_aux_lemma => kernel_rfl
                refine RUNO [(4, .v (.string (bs ((putNum (((([byteOf (((crc ((putNum seq) ++ body)) / 2 ^ 24 : Nat) : Int), byteOf (((crc ((putNum seq) ++ body)) / 2 ^ 16 : Nat) : Int), byteOf (((crc ((putNum seq) ++ body)) / 2 ^ 8 : Nat) : Int), byteOf ((crc ((putNum seq) ++ body) : Nat) : Int)]) ++ ((putNum seq) ++ body)).length : Nat) : Int)) ++ (([byteOf (((crc ((putNum seq) ++ body)) / 2 ^ 24 : Nat) : Int), byteOf (((crc ((putNum seq) ++ body)) / 2 ^ 16 : Nat) : Int), byteOf (((crc ((putNum seq) ++ body)) / 2 ^ 8 : Nat) : Int), byteOf ((crc ((putNum seq) ++ body) : Nat) : Int)]) ++ ((putNum seq) ++ body))))))] [] ?_ ?_
                · as_aux_lemma => kernel_rfl
                refine ANYEND ?_ ?_
                · as_aux_lemma => kernel_rfl
                refine NEXT (RET (FIN (.string (bs ((putNum (((([byteOf (((crc ((putNum seq) ++ body)) / 2 ^ 24 : Nat) : Int), byteOf (((crc ((putNum seq) ++ body)) / 2 ^ 16 : Nat) : Int), byteOf (((crc ((putNum seq) ++ body)) / 2 ^ 8 : Nat) : Int), byteOf ((crc ((putNum seq) ++ body) : Nat) : Int)]) ++ ((putNum seq) ++ body)).length : Nat) : Int)) ++ (([byteOf (((crc ((putNum seq) ++ body)) / 2 ^ 24 : Nat) : Int), byteOf (((crc ((putNum seq) ++ body)) / 2 ^ 16 : Nat) : Int), byteOf (((crc ((putNum seq) ++ body)) / 2 ^ 8 : Nat) : Int), byteOf ((crc ((putNum seq) ++ body) : Nat) : Int)]) ++ ((putNum seq) ++ body))))) ?_ () ?_ [] ?_))
                · as_aux_lemma => kernel_rfl
                · simp_all [RV, frameOf, four_nat]
                · rfl
          · -- operation 4 next
            refine RUNO [(38, I (((([byteOf (((crc ((putNum seq) ++ body)) / 2 ^ 24 : Nat) : Int), byteOf (((crc ((putNum seq) ++ body)) / 2 ^ 16 : Nat) : Int), byteOf (((crc ((putNum seq) ++ body)) / 2 ^ 8 : Nat) : Int), byteOf ((crc ((putNum seq) ++ body) : Nat) : Int)]) ++ ((putNum seq) ++ body)).length : Nat) : Int)), (41, .v (.slice a11 ((([byteOf (((crc ((putNum seq) ++ body)) / 2 ^ 24 : Nat) : Int), byteOf (((crc ((putNum seq) ++ body)) / 2 ^ 16 : Nat) : Int), byteOf (((crc ((putNum seq) ++ body)) / 2 ^ 8 : Nat) : Int), byteOf ((crc ((putNum seq) ++ body) : Nat) : Int)]) ++ ((putNum seq) ++ body)).length) c12))] [] ?_ ?_
            · as_aux_lemma => kernel_rfl
            refine ANY2 2 5 ?_ ?_ ?_
            · as_aux_lemma => kernel_rfl
            · -- operation 2 next
              refine CALL 48 #[vi (((([byteOf (((crc ((putNum seq) ++ body)) / 2 ^ 24 : Nat) : Int), byteOf (((crc ((putNum seq) ++ body)) / 2 ^ 16 : Nat) : Int), byteOf (((crc ((putNum seq) ++ body)) / 2 ^ 8 : Nat) : Int), byteOf ((crc ((putNum seq) ++ body) : Nat) : Int)]) ++ ((putNum seq) ++ body)).length : Nat) : Int)] (some 39) ?_ [] [] _ rfl (⟨HH, fun p => .slice p.1 ((putNum (((([byteOf (((crc ((putNum seq) ++ body)) / 2 ^ 24 : Nat) : Int), byteOf (((crc ((putNum seq) ++ body)) / 2 ^ 16 : Nat) : Int), byteOf (((crc ((putNum seq) ++ body)) / 2 ^ 8 : Nat) : Int), byteOf ((crc ((putNum seq) ++ body) : Nat) : Int)]) ++ ((putNum seq) ++ body)).length : Nat) : Int)).length) p.2, fun p => [slA 5 byteL (.slice p.1 (putNum (((([byteOf (((crc ((putNum seq) ++ body)) / 2 ^ 24 : Nat) : Int), byteOf (((crc ((putNum seq) ++ body)) / 2 ^ 16 : Nat) : Int), byteOf (((crc ((putNum seq) ++ body)) / 2 ^ 8 : Nat) : Int), byteOf ((crc ((putNum seq) ++ body) : Nat) : Int)]) ++ ((putNum seq) ++ body)).length : Nat) : Int)).length p.2) (putNum (((([byteOf (((crc ((putNum seq) ++ body)) / 2 ^ 24 : Nat) : Int), byteOf (((crc ((putNum seq) ++ body)) / 2 ^ 16 : Nat) : Int), byteOf (((crc ((putNum seq) ++ body)) / 2 ^ 8 : Nat) : Int), byteOf ((crc ((putNum seq) ++ body) : Nat) : Int)]) ++ ((putNum seq) ++ body)).length : Nat) : Int))]⟩) (fun w hw => iPutNum_c w (((([byteOf (((crc ((putNum seq) ++ body)) / 2 ^ 24 : Nat) : Int), byteOf (((crc ((putNum seq) ++ body)) / 2 ^ 16 : Nat) : Int), byteOf (((crc ((putNum seq) ++ body)) / 2 ^ 8 : Nat) : Int), byteOf ((crc ((putNum seq) ++ body) : Nat) : Int)]) ++ ((putNum seq) ++ body)).length : Nat) : Int)) (by rintro _ ⟨⟩; exact Nat.le_of_ble_eq_true rfl) ?_
              · as_aux_lemma => kernel_rfl
              rintro ⟨a17, c18⟩
              have hr19 := putNum_len (((([byteOf (((crc ((putNum seq) ++ body)) / 2 ^ 24 : Nat) : Int), byteOf (((crc ((putNum seq) ++ body)) / 2 ^ 16 : Nat) : Int), byteOf (((crc ((putNum seq) ++ body)) / 2 ^ 8 : Nat) : Int), byteOf ((crc ((putNum seq) ++ body) : Nat) : Int)]) ++ ((putNum seq) ++ body)).length : Nat) : Int)
              refine ANY2 3 5 ?_ ?_ ?_
              · as_aux_lemma => kernel_rfl
              · -- operation 3 next
                refine RUNV (.convert 62 9 (.tmp 39)) 40 9 ?_ (Nat.le_of_ble_eq_true rfl) (.string (bs (putNum (((([byteOf (((crc ((putNum seq) ++ body)) / 2 ^ 24 : Nat) : Int), byteOf (((crc ((putNum seq) ++ body)) / 2 ^ 16 : Nat) : Int), byteOf (((crc ((putNum seq) ++ body)) / 2 ^ 8 : Nat) : Int), byteOf ((crc ((putNum seq) ++ body) : Nat) : Int)]) ++ ((putNum seq) ++ body)).length : Nat) : Int)))) (runs_bstr (a := a17) (n := (putNum (((([byteOf (((crc ((putNum seq) ++ body)) / 2 ^ 24 : Nat) : Int), byteOf (((crc ((putNum seq) ++ body)) / 2 ^ 16 : Nat) : Int), byteOf (((crc ((putNum seq) ++ body)) / 2 ^ 8 : Nat) : Int), byteOf ((crc ((putNum seq) ++ body) : Nat) : Int)]) ++ ((putNum seq) ++ body)).length : Nat) : Int)).length) (c := c18) (xs := putNum (((([byteOf (((crc ((putNum seq) ++ body)) / 2 ^ 24 : Nat) : Int), byteOf (((crc ((putNum seq) ++ body)) / 2 ^ 16 : Nat) : Int), byteOf (((crc ((putNum seq) ++ body)) / 2 ^ 8 : Nat) : Int), byteOf ((crc ((putNum seq) ++ body) : Nat) : Int)]) ++ ((putNum seq) ++ body)).length : Nat) : Int)) (e := 5) ?_ ?_ ?_ ?_ rfl (fun w hw => (Rd.own (hw.own 2 rfl)))) ?_
                · as_aux_lemma => kernel_rfl
                · as_aux_lemma => kernel_rfl
                · as_aux_lemma => kernel_rfl
                · as_aux_lemma => kernel_rfl
                · as_aux_lemma => kernel_rfl
                refine ANY1 5 ?_ ?_
                · as_aux_lemma => kernel_rfl
                refine RUNV (.convert 62 9 (.tmp 41)) 42 9 ?_ (Nat.le_of_ble_eq_true rfl) (.string (bs (([byteOf (((crc ((putNum seq) ++ body)) / 2 ^ 24 : Nat) : Int), byteOf (((crc ((putNum seq) ++ body)) / 2 ^ 16 : Nat) : Int), byteOf (((crc ((putNum seq) ++ body)) / 2 ^ 8 : Nat) : Int), byteOf ((crc ((putNum seq) ++ body) : Nat) : Int)]) ++ ((putNum seq) ++ body)))) (runs_bstr (a := a11) (n := (([byteOf (((crc ((putNum seq) ++ body)) / 2 ^ 24 : Nat) : Int), byteOf (((crc ((putNum seq) ++ body)) / 2 ^ 16 : Nat) : Int), byteOf (((crc ((putNum seq) ++ body)) / 2 ^ 8 : Nat) : Int), byteOf ((crc ((putNum seq) ++ body) : Nat) : Int)]) ++ ((putNum seq) ++ body)).length) (c := c12) (xs := ([byteOf (((crc ((putNum seq) ++ body)) / 2 ^ 24 : Nat) : Int), byteOf (((crc ((putNum seq) ++ body)) / 2 ^ 16 : Nat) : Int), byteOf (((crc ((putNum seq) ++ body)) / 2 ^ 8 : Nat) : Int), byteOf ((crc ((putNum seq) ++ body) : Nat) : Int)]) ++ ((putNum seq) ++ body)) (e := 5) ?_ ?_ ?_ ?_ rfl (fun w hw => (Rd.own (hw.own 1 rfl)))) ?_
                · as_aux_lemma => kernel_rfl
                · as_aux_lemma => kernel_rfl
                · as_aux_lemma => kernel_rfl
                · as_aux_lemma => kernel_rfl
                · as_aux_lemma => kernel_rfl
                refine ANY1 6 ?_ ?_
                · as_aux_lemma => kernel_rfl
                refine RUNV (.binOp .add 9 (.tmp 40) (.tmp 42) 9) 43 9 ?_ (Nat.le_of_ble_eq_true rfl) (.string (bs ((putNum (((([byteOf (((crc ((putNum seq) ++ body)) / 2 ^ 24 : Nat) : Int), byteOf (((crc ((putNum seq) ++ body)) / 2 ^ 16 : Nat) : Int), byteOf (((crc ((putNum seq) ++ body)) / 2 ^ 8 : Nat) : Int), byteOf ((crc ((putNum seq) ++ body) : Nat) : Int)]) ++ ((putNum seq) ++ body)).length : Nat) : Int)) ++ (([byteOf (((crc ((putNum seq) ++ body)) / 2 ^ 24 : Nat) : Int), byteOf (((crc ((putNum seq) ++ body)) / 2 ^ 16 : Nat) : Int), byteOf (((crc ((putNum seq) ++ body)) / 2 ^ 8 : Nat) : Int), byteOf ((crc ((putNum seq) ++ body) : Nat) : Int)]) ++ ((putNum seq) ++ body))))) (runs_scat (a := putNum (((([byteOf (((crc ((putNum seq) ++ body)) / 2 ^ 24 : Nat) : Int), byteOf (((crc ((putNum seq) ++ body)) / 2 ^ 16 : Nat) : Int), byteOf (((crc ((putNum seq) ++ body)) / 2 ^ 8 : Nat) : Int), byteOf ((crc ((putNum seq) ++ body) : Nat) : Int)]) ++ ((putNum seq) ++ body)).length : Nat) : Int)) (b := ([byteOf (((crc ((putNum seq) ++ body)) / 2 ^ 24 : Nat) : Int), byteOf (((crc ((putNum seq) ++ body)) / 2 ^ 16 : Nat) : Int), byteOf (((crc ((putNum seq) ++ body)) / 2 ^ 8 : Nat) : Int), byteOf ((crc ((putNum seq) ++ body) : Nat) : Int)]) ++ ((putNum seq) ++ body)) ?_ ?_ (by first | omega | (simp only [List.length_append, List.length_cons, List.length_nil, List.length_take, List.length_drop] at *; omega))) ?_
                · as_aux_lemma => kernel_rfl
                · as_aux_lemma => kernel_rfl
                · as_aux_lemma => kernel_rfl
                refine ANY1 7 ?_ ?_
                · as_aux_lemma => kernel_rfl
                refine RUNO [(4, .v (.string (bs ((putNum (((([byteOf (((crc ((putNum seq) ++ body)) / 2 ^ 24 : Nat) : Int), byteOf (((crc ((putNum seq) ++ body)) / 2 ^ 16 : Nat) : Int), byteOf (((crc ((putNum seq) ++ body)) / 2 ^ 8 : Nat) : Int), byteOf ((crc ((putNum seq) ++ body) : Nat) : Int)]) ++ ((putNum seq) ++ body)).length : Nat) : Int)) ++ (([byteOf (((crc ((putNum seq) ++ body)) / 2 ^ 24 : Nat) : Int), byteOf (((crc ((putNum seq) ++ body)) / 2 ^ 16 : Nat) : Int), byteOf (((crc ((putNum seq) ++ body)) / 2 ^ 8 : Nat) : Int), byteOf ((crc ((putNum seq) ++ body) : Nat) : Int)]) ++ ((putNum seq) ++ body))))))] [] ?_ ?_
                · as_aux_lemma => kernel_rfl
                refine ANYEND ?_ ?_
                · as_aux_lemma => kernel_rfl
                refine NEXT (RET (FIN (.string (bs ((putNum (((([byteOf (((crc ((putNum seq) ++ body)) / 2 ^ 24 : Nat) : Int), byteOf (((crc ((putNum seq) ++ body)) / 2 ^ 16 : Nat) : Int), byteOf (((crc ((putNum seq) ++ body)) / 2 ^ 8 : Nat) : Int), byteOf ((crc ((putNum seq) ++ body) : Nat) : Int)]) ++ ((putNum seq) ++ body)).length : Nat) : Int)) ++ (([byteOf (((crc ((putNum seq) ++ body)) / 2 ^ 24 : Nat) : Int), byteOf (((crc ((putNum seq) ++ body)) / 2 ^ 16 : Nat) : Int), byteOf (((crc ((putNum seq) ++ body)) / 2 ^ 8 : Nat) : Int), byteOf ((crc ((putNum seq) ++ body) : Nat) : Int)]) ++ ((putNum seq) ++ body))))) ?_ () ?_ [] ?_))
                · as_aux_lemma => kernel_rfl
                · simp_all [RV, frameOf, four_nat]
                · rfl
              · -- operation 5 next
                refine RUNV (.convert 62 9 (.tmp 41)) 42 9 ?_ (Nat.le_of_ble_eq_true rfl) (.string (bs (([byteOf (((crc ((putNum seq) ++ body)) / 2 ^ 24 : Nat) : Int), byteOf (((crc ((putNum seq) ++ body)) / 2 ^ 16 : Nat) : Int), byteOf (((crc ((putNum seq) ++ body)) / 2 ^ 8 : Nat) : Int), byteOf ((crc ((putNum seq) ++ body) : Nat) : Int)]) ++ ((putNum seq) ++ body)))) (runs_bstr (a := a11) (n := (([byteOf (((crc ((putNum seq) ++ body)) / 2 ^ 24 : Nat) : Int), byteOf (((crc ((putNum seq) ++ body)) / 2 ^ 16 : Nat) : Int), byteOf (((crc ((putNum seq) ++ body)) / 2 ^ 8 : Nat) : Int), byteOf ((crc ((putNum seq) ++ body) : Nat) : Int)]) ++ ((putNum seq) ++ body)).length) (c := c12) (xs := ([byteOf (((crc ((putNum seq) ++ body)) / 2 ^ 24 : Nat) : Int), byteOf (((crc ((putNum seq) ++ body)) / 2 ^ 16 : Nat) : Int), byteOf (((crc ((putNum seq) ++ body)) / 2 ^ 8 : Nat) : Int), byteOf ((crc ((putNum seq) ++ body) : Nat) : Int)]) ++ ((putNum seq) ++ body)) (e := 5) ?_ ?_ ?_ ?_ rfl (fun w hw => (Rd.own (hw.own 1 rfl)))) ?_
                · as_aux_lemma => kernel_rfl
                · as_aux_lemma => kernel_rfl
                · as_aux_lemma => kernel_rfl
                · as_aux_lemma => kernel_rfl
                · as_aux_lemma => kernel_rfl
                refine ANY1 3 ?_ ?_
                · as_aux_lemma => kernel_rfl
                refine RUNV (.convert 62 9 (.tmp 39)) 40 9 ?_ (Nat.le_of_ble_eq_true rfl) (.string (bs (putNum (((([byteOf (((crc ((putNum seq) ++ body)) / 2 ^ 24 : Nat) : Int), byteOf (((crc ((putNum seq) ++ body)) / 2 ^ 16 : Nat) : Int), byteOf (((crc ((putNum seq) ++ body)) / 2 ^ 8 : Nat) : Int), byteOf ((crc ((putNum seq) ++ body) : Nat) : Int)]) ++ ((putNum seq) ++ body)).length : Nat) : Int)))) (runs_bstr (a := a17) (n := (putNum (((([byteOf (((crc ((putNum seq) ++ body)) / 2 ^ 24 : Nat) : Int), byteOf (((crc ((putNum seq) ++ body)) / 2 ^ 16 : Nat) : Int), byteOf (((crc ((putNum seq) ++ body)) / 2 ^ 8 : Nat) : Int), byteOf ((crc ((putNum seq) ++ body) : Nat) : Int)]) ++ ((putNum seq) ++ body)).length : Nat) : Int)).length) (c := c18) (xs := putNum (((([byteOf (((crc ((putNum seq) ++ body)) / 2 ^ 24 : Nat) : Int), byteOf (((crc ((putNum seq) ++ body)) / 2 ^ 16 : Nat) : Int), byteOf (((crc ((putNum seq) ++ body)) / 2 ^ 8 : Nat) : Int), byteOf ((crc ((putNum seq) ++ body) : Nat) : Int)]) ++ ((putNum seq) ++ body)).length : Nat) : Int)) (e := 5) ?_ ?_ ?_ ?_ rfl (fun w hw => (Rd.own (hw.own 2 rfl)))) ?_
                · as_aux_lemma => kernel_rfl
                · as_aux_lemma => kernel_rfl
                · as_aux_lemma => kernel_rfl
                · as_aux_lemma => kernel_rfl
                · as_aux_lemma => kernel_rfl
                refine ANY1 6 ?_ ?_
                · as_aux_lemma => kernel_rfl
                refine RUNV (.binOp .add 9 (.tmp 40) (.tmp 42) 9) 43 9 ?_ (Nat.le_of_ble_eq_true rfl) (.string (bs ((putNum (((([byteOf (((crc ((putNum seq) ++ body)) / 2 ^ 24 : Nat) : Int), byteOf (((crc ((putNum seq) ++ body)) / 2 ^ 16 : Nat) : Int), byteOf (((crc ((putNum seq) ++ body)) / 2 ^ 8 : Nat) : Int), byteOf ((crc ((putNum seq) ++ body) : Nat) : Int)]) ++ ((putNum seq) ++ body)).length : Nat) : Int)) ++ (([byteOf (((crc ((putNum seq) ++ body)) / 2 ^ 24 : Nat) : Int), byteOf (((crc ((putNum seq) ++ body)) / 2 ^ 16 : Nat) : Int), byteOf (((crc ((putNum seq) ++ body)) / 2 ^ 8 : Nat) : Int), byteOf ((crc ((putNum seq) ++ body) : Nat) : Int)]) ++ ((putNum seq) ++ body))))) (runs_scat (a := putNum (((([byteOf (((crc ((putNum seq) ++ body)) / 2 ^ 24 : Nat) : Int), byteOf (((crc ((putNum seq) ++ body)) / 2 ^ 16 : Nat) : Int), byteOf (((crc ((putNum seq) ++ body)) / 2 ^ 8 : Nat) : Int), byteOf ((crc ((putNum seq) ++ body) : Nat) : Int)]) ++ ((putNum seq) ++ body)).length : Nat) : Int)) (b := ([byteOf (((crc ((putNum seq) ++ body)) / 2 ^ 24 : Nat) : Int), byteOf (((crc ((putNum seq) ++ body)) / 2 ^ 16 : Nat) : Int), byteOf (((crc ((putNum seq) ++ body)) / 2 ^ 8 : Nat) : Int), byteOf ((crc ((putNum seq) ++ body) : Nat) : Int)]) ++ ((putNum seq) ++ body)) ?_ ?_ (by first | omega | (simp only [List.length_append, List.length_cons, List.length_nil, List.length_take, List.length_drop] at *; omega))) ?_
                · as_aux_lemma => kernel_rfl
                · as_aux_lemma => kernel_rfl
                · as_aux_lemma => kernel_rfl
                refine ANY1 7 ?_ ?_
                · as_aux_lemma => kernel_rfl
                refine RUNO [(4, .v (.string (bs ((putNum (((([byteOf (((crc ((putNum seq) ++ body)) / 2 ^ 24 : Nat) : Int), byteOf (((crc ((putNum seq) ++ body)) / 2 ^ 16 : Nat) : Int), byteOf (((crc ((putNum seq) ++ body)) / 2 ^ 8 : Nat) : Int), byteOf ((crc ((putNum seq) ++ body) : Nat) : Int)]) ++ ((putNum seq) ++ body)).length : Nat) : Int)) ++ (([byteOf (((crc ((putNum seq) ++ body)) / 2 ^ 24 : Nat) : Int), byteOf (((crc ((putNum seq) ++ body)) / 2 ^ 16 : Nat) : Int), byteOf (((crc ((putNum seq) ++ body)) / 2 ^ 8 : Nat) : Int), byteOf ((crc ((putNum seq) ++ body) : Nat) : Int)]) ++ ((putNum seq) ++ body))))))] [] ?_ ?_
                · as_aux_lemma => kernel_rfl
                refine ANYEND ?_ ?_
                · as_aux_lemma => kernel_rfl
                refine NEXT (RET (FIN (.string (bs ((putNum (((([byteOf (((crc ((putNum seq) ++ body)) / 2 ^ 24 : Nat) : Int), byteOf (((crc ((putNum seq) ++ body)) / 2 ^ 16 : Nat) : Int), byteOf (((crc ((putNum seq) ++ body)) / 2 ^ 8 : Nat) : Int), byteOf ((crc ((putNum seq) ++ body) : Nat) : Int)]) ++ ((putNum seq) ++ body)).length : Nat) : Int)) ++ (([byteOf (((crc ((putNum seq) ++ body)) / 2 ^ 24 : Nat) : Int), byteOf (((crc ((putNum seq) ++ body)) / 2 ^ 16 : Nat) : Int), byteOf (((crc ((putNum seq) ++ body)) / 2 ^ 8 : Nat) : Int), byteOf ((crc ((putNum seq) ++ body) : Nat) : Int)]) ++ ((putNum seq) ++ body))))) ?_ () ?_ [] ?_))
                · as_aux_lemma => kernel_rfl
                · simp_all [RV, frameOf, four_nat]
                · rfl
            · -- operation 5 next
              refine RUNV (.convert 62 9 (.tmp 41)) 42 9 ?_ (Nat.le_of_ble_eq_true rfl) (.string (bs (([byteOf (((crc ((putNum seq) ++ body)) / 2 ^ 24 : Nat) : Int), byteOf (((crc ((putNum seq) ++ body)) / 2 ^ 16 : Nat) : Int), byteOf (((crc ((putNum seq) ++ body)) / 2 ^ 8 : Nat) : Int), byteOf ((crc ((putNum seq) ++ body) : Nat) : Int)]) ++ ((putNum seq) ++ body)))) (runs_bstr (a := a11) (n := (([byteOf (((crc ((putNum seq) ++ body)) / 2 ^ 24 : Nat) : Int), byteOf (((crc ((putNum seq) ++ body)) / 2 ^ 16 : Nat) : Int), byteOf (((crc ((putNum seq) ++ body)) / 2 ^ 8 : Nat) : Int), byteOf ((crc ((putNum seq) ++ body) : Nat) : Int)]) ++ ((putNum seq) ++ body)).length) (c := c12) (xs := ([byteOf (((crc ((putNum seq) ++ body)) / 2 ^ 24 : Nat) : Int), byteOf (((crc ((putNum seq) ++ body)) / 2 ^ 16 : Nat) : Int), byteOf (((crc ((putNum seq) ++ body)) / 2 ^ 8 : Nat) : Int), byteOf ((crc ((putNum seq) ++ body) : Nat) : Int)]) ++ ((putNum seq) ++ body)) (e := 5) ?_ ?_ ?_ ?_ rfl (fun w hw => (Rd.own (hw.own 1 rfl)))) ?_
              · as_aux_lemma => kernel_rfl
              · as_aux_lemma => kernel_rfl
              · as_aux_lemma => kernel_rfl
              · as_aux_lemma => kernel_rfl
              · as_aux_lemma => kernel_rfl
              refine ANY1 2 ?_ ?_
              · as_aux_lemma => kernel_rfl
              refine CALL 48 #[vi (((([byteOf (((crc ((putNum seq) ++ body)) / 2 ^ 24 : Nat) : Int), byteOf (((crc ((putNum seq) ++ body)) / 2 ^ 16 : Nat) : Int), byteOf (((crc ((putNum seq) ++ body)) / 2 ^ 8 : Nat) : Int), byteOf ((crc ((putNum seq) ++ body) : Nat) : Int)]) ++ ((putNum seq) ++ body)).length : Nat) : Int)] (some 39) ?_ [] [] _ rfl (⟨HH, fun p => .slice p.1 ((putNum (((([byteOf (((crc ((putNum seq) ++ body)) / 2 ^ 24 : Nat) : Int), byteOf (((crc ((putNum seq) ++ body)) / 2 ^ 16 : Nat) : Int), byteOf (((crc ((putNum seq) ++ body)) / 2 ^ 8 : Nat) : Int), byteOf ((crc ((putNum seq) ++ body) : Nat) : Int)]) ++ ((putNum seq) ++ body)).length : Nat) : Int)).length) p.2, fun p => [slA 5 byteL (.slice p.1 (putNum (((([byteOf (((crc ((putNum seq) ++ body)) / 2 ^ 24 : Nat) : Int), byteOf (((crc ((putNum seq) ++ body)) / 2 ^ 16 : Nat) : Int), byteOf (((crc ((putNum seq) ++ body)) / 2 ^ 8 : Nat) : Int), byteOf ((crc ((putNum seq) ++ body) : Nat) : Int)]) ++ ((putNum seq) ++ body)).length : Nat) : Int)).length p.2) (putNum (((([byteOf (((crc ((putNum seq) ++ body)) / 2 ^ 24 : Nat) : Int), byteOf (((crc ((putNum seq) ++ body)) / 2 ^ 16 : Nat) : Int), byteOf (((crc ((putNum seq) ++ body)) / 2 ^ 8 : Nat) : Int), byteOf ((crc ((putNum seq) ++ body) : Nat) : Int)]) ++ ((putNum seq) ++ body)).length : Nat) : Int))]⟩) (fun w hw => iPutNum_c w (((([byteOf (((crc ((putNum seq) ++ body)) / 2 ^ 24 : Nat) : Int), byteOf (((crc ((putNum seq) ++ body)) / 2 ^ 16 : Nat) : Int), byteOf (((crc ((putNum seq) ++ body)) / 2 ^ 8 : Nat) : Int), byteOf ((crc ((putNum seq) ++ body) : Nat) : Int)]) ++ ((putNum seq) ++ body)).length : Nat) : Int)) (by rintro _ ⟨⟩; exact Nat.le_of_ble_eq_true rfl) ?_
              · as_aux_lemma => kernel_rfl
              rintro ⟨a20, c21⟩
              have hr22 := putNum_len (((([byteOf (((crc ((putNum seq) ++ body)) / 2 ^ 24 : Nat) : Int), byteOf (((crc ((putNum seq) ++ body)) / 2 ^ 16 : Nat) : Int), byteOf (((crc ((putNum seq) ++ body)) / 2 ^ 8 : Nat) : Int), byteOf ((crc ((putNum seq) ++ body) : Nat) : Int)]) ++ ((putNum seq) ++ body)).length : Nat) : Int)
              refine ANY1 3 ?_ ?_
              · as_aux_lemma => kernel_rfl
              refine RUNV (.convert 62 9 (.tmp 39)) 40 9 ?_ (Nat.le_of_ble_eq_true rfl) (.string (bs (putNum (((([byteOf (((crc ((putNum seq) ++ body)) / 2 ^ 24 : Nat) : Int), byteOf (((crc ((putNum seq) ++ body)) / 2 ^ 16 : Nat) : Int), byteOf (((crc ((putNum seq) ++ body)) / 2 ^ 8 : Nat) : Int), byteOf ((crc ((putNum seq) ++ body) : Nat) : Int)]) ++ ((putNum seq) ++ body)).length : Nat) : Int)))) (runs_bstr (a := a20) (n := (putNum (((([byteOf (((crc ((putNum seq) ++ body)) / 2 ^ 24 : Nat) : Int), byteOf (((crc ((putNum seq) ++ body)) / 2 ^ 16 : Nat) : Int), byteOf (((crc ((putNum seq) ++ body)) / 2 ^ 8 : Nat) : Int), byteOf ((crc ((putNum seq) ++ body) : Nat) : Int)]) ++ ((putNum seq) ++ body)).length : Nat) : Int)).length) (c := c21) (xs := putNum (((([byteOf (((crc ((putNum seq) ++ body)) / 2 ^ 24 : Nat) : Int), byteOf (((crc ((putNum seq) ++ body)) / 2 ^ 16 : Nat) : Int), byteOf (((crc ((putNum seq) ++ body)) / 2 ^ 8 : Nat) : Int), byteOf ((crc ((putNum seq) ++ body) : Nat) : Int)]) ++ ((putNum seq) ++ body)).length : Nat) : Int)) (e := 5) ?_ ?_ ?_ ?_ rfl (fun w hw => (Rd.own (hw.own 2 rfl)))) ?_
              · as_aux_lemma => kernel_rfl
              · as_aux_lemma => kernel_rfl
              · as_aux_lemma => kernel_rfl
              · as_aux_lemma => kernel_rfl
              · as_aux_lemma => kernel_rfl
              refine ANY1 6 ?_ ?_
              · as_aux_lemma => kernel_rfl
              refine RUNV (.binOp .add 9 (.tmp 40) (.tmp 42) 9) 43 9 ?_ (Nat.le_of_ble_eq_true rfl) (.string (bs ((putNum (((([byteOf (((crc ((putNum seq) ++ body)) / 2 ^ 24 : Nat) : Int), byteOf (((crc ((putNum seq) ++ body)) / 2 ^ 16 : Nat) : Int), byteOf (((crc ((putNum seq) ++ body)) / 2 ^ 8 : Nat) : Int), byteOf ((crc ((putNum seq) ++ body) : Nat) : Int)]) ++ ((putNum seq) ++ body)).length : Nat) : Int)) ++ (([byteOf (((crc ((putNum seq) ++ body)) / 2 ^ 24 : Nat) : Int), byteOf (((crc ((putNum seq) ++ body)) / 2 ^ 16 : Nat) : Int), byteOf (((crc ((putNum seq) ++ body)) / 2 ^ 8 : Nat) : Int), byteOf ((crc ((putNum seq) ++ body) : Nat) : Int)]) ++ ((putNum seq) ++ body))))) (runs_scat (a := putNum (((([byteOf (((crc ((putNum seq) ++ body)) / 2 ^ 24 : Nat) : Int), byteOf (((crc ((putNum seq) ++ body)) / 2 ^ 16 : Nat) : Int), byteOf (((crc ((putNum seq) ++ body)) / 2 ^ 8 : Nat) : Int), byteOf ((crc ((putNum seq) ++ body) : Nat) : Int)]) ++ ((putNum seq) ++ body)).length : Nat) : Int)) (b := ([byteOf (((crc ((putNum seq) ++ body)) / 2 ^ 24 : Nat) : Int), byteOf (((crc ((putNum seq) ++ body)) / 2 ^ 16 : Nat) : Int), byteOf (((crc ((putNum seq) ++ body)) / 2 ^ 8 : Nat) : Int), byteOf ((crc ((putNum seq) ++ body) : Nat) : Int)]) ++ ((putNum seq) ++ body)) ?_ ?_ (by first | omega | (simp only [List.length_append, List.length_cons, List.length_nil, List.length_take, List.length_drop] at *; omega))) ?_
              · as_aux_lemma => kernel_rfl
              · as_aux_lemma => kernel_rfl
              · as_aux_lemma => kernel_rfl
              refine ANY1 7 ?_ ?_
              · as_aux_lemma => kernel_rfl
              refine RUNO [(4, .v (.string (bs ((putNum (((([byteOf (((crc ((putNum seq) ++ body)) / 2 ^ 24 : Nat) : Int), byteOf (((crc ((putNum seq) ++ body)) / 2 ^ 16 : Nat) : Int), byteOf (((crc ((putNum seq) ++ body)) / 2 ^ 8 : Nat) : Int), byteOf ((crc ((putNum seq) ++ body) : Nat) : Int)]) ++ ((putNum seq) ++ body)).length : Nat) : Int)) ++ (([byteOf (((crc ((putNum seq) ++ body)) / 2 ^ 24 : Nat) : Int), byteOf (((crc ((putNum seq) ++ body)) / 2 ^ 16 : Nat) : Int), byteOf (((crc ((putNum seq) ++ body)) / 2 ^ 8 : Nat) : Int), byteOf ((crc ((putNum seq) ++ body) : Nat) : Int)]) ++ ((putNum seq) ++ body))))))] [] ?_ ?_
              · as_aux_lemma => kernel_rfl
              refine ANYEND ?_ ?_
              · as_aux_lemma => kernel_rfl
              refine NEXT (RET (FIN (.string (bs ((putNum (((([byteOf (((crc ((putNum seq) ++ body)) / 2 ^ 24 : Nat) : Int), byteOf (((crc ((putNum seq) ++ body)) / 2 ^ 16 : Nat) : Int), byteOf (((crc ((putNum seq) ++ body)) / 2 ^ 8 : Nat) : Int), byteOf ((crc ((putNum seq) ++ body) : Nat) : Int)]) ++ ((putNum seq) ++ body)).length : Nat) : Int)) ++ (([byteOf (((crc ((putNum seq) ++ body)) / 2 ^ 24 : Nat) : Int), byteOf (((crc ((putNum seq) ++ body)) / 2 ^ 16 : Nat) : Int), byteOf (((crc ((putNum seq) ++ body)) / 2 ^ 8 : Nat) : Int), byteOf ((crc ((putNum seq) ++ body) : Nat) : Int)]) ++ ((putNum seq) ++ body))))) ?_ () ?_ [] ?_))
              · as_aux_lemma => kernel_rfl
              · simp_all [RV, frameOf, four_nat]
              · rfl
        · -- operation 4 next
          refine RUNO [(37, .v (.slice a11 ((([byteOf (((crc ((putNum seq) ++ body)) / 2 ^ 24 : Nat) : Int), byteOf (((crc ((putNum seq) ++ body)) / 2 ^ 16 : Nat) : Int), byteOf (((crc ((putNum seq) ++ body)) / 2 ^ 8 : Nat) : Int), byteOf ((crc ((putNum seq) ++ body) : Nat) : Int)]) ++ ((putNum seq) ++ body)).length) c12)), (41, .v (.slice a11 ((([byteOf (((crc ((putNum seq) ++ body)) / 2 ^ 24 : Nat) : Int), byteOf (((crc ((putNum seq) ++ body)) / 2 ^ 16 : Nat) : Int), byteOf (((crc ((putNum seq) ++ body)) / 2 ^ 8 : Nat) : Int), byteOf ((crc ((putNum seq) ++ body) : Nat) : Int)]) ++ ((putNum seq) ++ body)).length) c12))] [] ?_ ?_
          · as_aux_lemma => kernel_rfl
          refine ANY2 1 5 ?_ ?_ ?_
          · as_aux_lemma => kernel_rfl
          · -- operation 1 next
            refine RUNO [(38, I (((([byteOf (((crc ((putNum seq) ++ body)) / 2 ^ 24 : Nat) : Int), byteOf (((crc ((putNum seq) ++ body)) / 2 ^ 16 : Nat) : Int), byteOf (((crc ((putNum seq) ++ body)) / 2 ^ 8 : Nat) : Int), byteOf ((crc ((putNum seq) ++ body) : Nat) : Int)]) ++ ((putNum seq) ++ body)).length : Nat) : Int)), (41, .v (.slice a11 ((([byteOf (((crc ((putNum seq) ++ body)) / 2 ^ 24 : Nat) : Int), byteOf (((crc ((putNum seq) ++ body)) / 2 ^ 16 : Nat) : Int), byteOf (((crc ((putNum seq) ++ body)) / 2 ^ 8 : Nat) : Int), byteOf ((crc ((putNum seq) ++ body) : Nat) : Int)]) ++ ((putNum seq) ++ body)).length) c12))] [] ?_ ?_
            · as_aux_lemma => kernel_rfl
            refine ANY2 2 5 ?_ ?_ ?_
            · as_aux_lemma => kernel_rfl
            · -- operation 2 next
              refine CALL 48 #[vi (((([byteOf (((crc ((putNum seq) ++ body)) / 2 ^ 24 : Nat) : Int), byteOf (((crc ((putNum seq) ++ body)) / 2 ^ 16 : Nat) : Int), byteOf (((crc ((putNum seq) ++ body)) / 2 ^ 8 : Nat) : Int), byteOf ((crc ((putNum seq) ++ body) : Nat) : Int)]) ++ ((putNum seq) ++ body)).length : Nat) : Int)] (some 39) ?_ [] [] _ rfl (⟨HH, fun p => .slice p.1 ((putNum (((([byteOf (((crc ((putNum seq) ++ body)) / 2 ^ 24 : Nat) : Int), byteOf (((crc ((putNum seq) ++ body)) / 2 ^ 16 : Nat) : Int), byteOf (((crc ((putNum seq) ++ body)) / 2 ^ 8 : Nat) : Int), byteOf ((crc ((putNum seq) ++ body) : Nat) : Int)]) ++ ((putNum seq) ++ body)).length : Nat) : Int)).length) p.2, fun p => [slA 5 byteL (.slice p.1 (putNum (((([byteOf (((crc ((putNum seq) ++ body)) / 2 ^ 24 : Nat) : Int), byteOf (((crc ((putNum seq) ++ body)) / 2 ^ 16 : Nat) : Int), byteOf (((crc ((putNum seq) ++ body)) / 2 ^ 8 : Nat) : Int), byteOf ((crc ((putNum seq) ++ body) : Nat) : Int)]) ++ ((putNum seq) ++ body)).length : Nat) : Int)).length p.2) (putNum (((([byteOf (((crc ((putNum seq) ++ body)) / 2 ^ 24 : Nat) : Int), byteOf (((crc ((putNum seq) ++ body)) / 2 ^ 16 : Nat) : Int), byteOf (((crc ((putNum seq) ++ body)) / 2 ^ 8 : Nat) : Int), byteOf ((crc ((putNum seq) ++ body) : Nat) : Int)]) ++ ((putNum seq) ++ body)).length : Nat) : Int))]⟩) (fun w hw => iPutNum_c w (((([byteOf (((crc ((putNum seq) ++ body)) / 2 ^ 24 : Nat) : Int), byteOf (((crc ((putNum seq) ++ body)) / 2 ^ 16 : Nat) : Int), byteOf (((crc ((putNum seq) ++ body)) / 2 ^ 8 : Nat) : Int), byteOf ((crc ((putNum seq) ++ body) : Nat) : Int)]) ++ ((putNum seq) ++ body)).length : Nat) : Int)) (by rintro _ ⟨⟩; exact Nat.le_of_ble_eq_true rfl) ?_
              · as_aux_lemma => kernel_rfl
              rintro ⟨a23, c24⟩
              have hr25 := putNum_len (((([byteOf (((crc ((putNum seq) ++ body)) / 2 ^ 24 : Nat) : Int), byteOf (((crc ((putNum seq) ++ body)) / 2 ^ 16 : Nat) : Int), byteOf (((crc ((putNum seq) ++ body)) / 2 ^ 8 : Nat) : Int), byteOf ((crc ((putNum seq) ++ body) : Nat) : Int)]) ++ ((putNum seq) ++ body)).length : Nat) : Int)
              refine ANY2 3 5 ?_ ?_ ?_
              · as_aux_lemma => kernel_rfl
              · -- operation 3 next
                refine RUNV (.convert 62 9 (.tmp 39)) 40 9 ?_ (Nat.le_of_ble_eq_true rfl) (.string (bs (putNum (((([byteOf (((crc ((putNum seq) ++ body)) / 2 ^ 24 : Nat) : Int), byteOf (((crc ((putNum seq) ++ body)) / 2 ^ 16 : Nat) : Int), byteOf (((crc ((putNum seq) ++ body)) / 2 ^ 8 : Nat) : Int), byteOf ((crc ((putNum seq) ++ body) : Nat) : Int)]) ++ ((putNum seq) ++ body)).length : Nat) : Int)))) (runs_bstr (a := a23) (n := (putNum (((([byteOf (((crc ((putNum seq) ++ body)) / 2 ^ 24 : Nat) : Int), byteOf (((crc ((putNum seq) ++ body)) / 2 ^ 16 : Nat) : Int), byteOf (((crc ((putNum seq) ++ body)) / 2 ^ 8 : Nat) : Int), byteOf ((crc ((putNum seq) ++ body) : Nat) : Int)]) ++ ((putNum seq) ++ body)).length : Nat) : Int)).length) (c := c24) (xs := putNum (((([byteOf (((crc ((putNum seq) ++ body)) / 2 ^ 24 : Nat) : Int), byteOf (((crc ((putNum seq) ++ body)) / 2 ^ 16 : Nat) : Int), byteOf (((crc ((putNum seq) ++ body)) / 2 ^ 8 : Nat) : Int), byteOf ((crc ((putNum seq) ++ body) : Nat) : Int)]) ++ ((putNum seq) ++ body)).length : Nat) : Int)) (e := 5) ?_ ?_ ?_ ?_ rfl (fun w hw => (Rd.own (hw.own 2 rfl)))) ?_
                · as_aux_lemma => kernel_rfl
                · as_aux_lemma => kernel_rfl
                · as_aux_lemma => kernel_rfl
                · as_aux_lemma => kernel_rfl
                · as_aux_lemma => kernel_rfl
                refine ANY1 5 ?_ ?_
                · as_aux_lemma => kernel_rfl
                refine RUNV (.convert 62 9 (.tmp 41)) 42 9 ?_ (Nat.le_of_ble_eq_true rfl) (.string (bs (([byteOf (((crc ((putNum seq) ++ body)) / 2 ^ 24 : Nat) : Int), byteOf (((crc ((putNum seq) ++ body)) / 2 ^ 16 : Nat) : Int), byteOf (((crc ((putNum seq) ++ body)) / 2 ^ 8 : Nat) : Int), byteOf ((crc ((putNum seq) ++ body) : Nat) : Int)]) ++ ((putNum seq) ++ body)))) (runs_bstr (a := a11) (n := (([byteOf (((crc ((putNum seq) ++ body)) / 2 ^ 24 : Nat) : Int), byteOf (((crc ((putNum seq) ++ body)) / 2 ^ 16 : Nat) : Int), byteOf (((crc ((putNum seq) ++ body)) / 2 ^ 8 : Nat) : Int), byteOf ((crc ((putNum seq) ++ body) : Nat) : Int)]) ++ ((putNum seq) ++ body)).length) (c := c12) (xs := ([byteOf (((crc ((putNum seq) ++ body)) / 2 ^ 24 : Nat) : Int), byteOf (((crc ((putNum seq) ++ body)) / 2 ^ 16 : Nat) : Int), byteOf (((crc ((putNum seq) ++ body)) / 2 ^ 8 : Nat) : Int), byteOf ((crc ((putNum seq) ++ body) : Nat) : Int)]) ++ ((putNum seq) ++ body)) (e := 5) ?_ ?_ ?_ ?_ rfl (fun w hw => (Rd.own (hw.own 1 rfl)))) ?_
                · as_aux_lemma => kernel_rfl
                · as_aux_lemma => kernel_rfl
                · as_aux_lemma => kernel_rfl
                · as_aux_lemma => kernel_rfl
                · as_aux_lemma => kernel_rfl
                refine ANY1 6 ?_ ?_
                · as_aux_lemma => kernel_rfl
                refine RUNV (.binOp .add 9 (.tmp 40) (.tmp 42) 9) 43 9 ?_ (Nat.le_of_ble_eq_true rfl) (.string (bs ((putNum (((([byteOf (((crc ((putNum seq) ++ body)) / 2 ^ 24 : Nat) : Int), byteOf (((crc ((putNum seq) ++ body)) / 2 ^ 16 : Nat) : Int), byteOf (((crc ((putNum seq) ++ body)) / 2 ^ 8 : Nat) : Int), byteOf ((crc ((putNum seq) ++ body) : Nat) : Int)]) ++ ((putNum seq) ++ body)).length : Nat) : Int)) ++ (([byteOf (((crc ((putNum seq) ++ body)) / 2 ^ 24 : Nat) : Int), byteOf (((crc ((putNum seq) ++ body)) / 2 ^ 16 : Nat) : Int), byteOf (((crc ((putNum seq) ++ body)) / 2 ^ 8 : Nat) : Int), byteOf ((crc ((putNum seq) ++ body) : Nat) : Int)]) ++ ((putNum seq) ++ body))))) (runs_scat (a := putNum (((([byteOf (((crc ((putNum seq) ++ body)) / 2 ^ 24 : Nat) : Int), byteOf (((crc ((putNum seq) ++ body)) / 2 ^ 16 : Nat) : Int), byteOf (((crc ((putNum seq) ++ body)) / 2 ^ 8 : Nat) : Int), byteOf ((crc ((putNum seq) ++ body) : Nat) : Int)]) ++ ((putNum seq) ++ body)).length : Nat) : Int)) (b := ([byteOf (((crc ((putNum seq) ++ body)) / 2 ^ 24 : Nat) : Int), byteOf (((crc ((putNum seq) ++ body)) / 2 ^ 16 : Nat) : Int), byteOf (((crc ((putNum seq) ++ body)) / 2 ^ 8 : Nat) : Int), byteOf ((crc ((putNum seq) ++ body) : Nat) : Int)]) ++ ((putNum seq) ++ body)) ?_ ?_ (by first | omega | (simp only [List.length_append, List.length_cons, List.length_nil, List.length_take, List.length_drop] at *; omega))) ?_
                · as_aux_lemma => kernel_rfl
                · as_aux_lemma => kernel_rfl
                · as_aux_lemma => kernel_rfl
                refine ANY1 7 ?_ ?_
                · as_aux_lemma => kernel_rfl
                refine RUNO [(4, .v (.string (bs ((putNum (((([byteOf (((crc ((putNum seq) ++ body)) / 2 ^ 24 : Nat) : Int), byteOf (((crc ((putNum seq) ++ body)) / 2 ^ 16 : Nat) : Int), byteOf (((crc ((putNum seq) ++ body)) / 2 ^ 8 : Nat) : Int), byteOf ((crc ((putNum seq) ++ body) : Nat) : Int)]) ++ ((putNum seq) ++ body)).length : Nat) : Int)) ++ (([byteOf (((crc ((putNum seq) ++ body)) / 2 ^ 24 : Nat) : Int), byteOf (((crc ((putNum seq) ++ body)) / 2 ^ 16 : Nat) : Int), byteOf (((crc ((putNum seq) ++ body)) / 2 ^ 8 : Nat) : Int), byteOf ((crc ((putNum seq) ++ body) : Nat) : Int)]) ++ ((putNum seq) ++ body))))))] [] ?_ ?_
                · as_aux_lemma => kernel_rfl
                refine ANYEND ?_ ?_
                · as_aux_lemma => kernel_rfl
                refine NEXT (RET (FIN (.string (bs ((putNum (((([byteOf (((crc ((putNum seq) ++ body)) / 2 ^ 24 : Nat) : Int), byteOf (((crc ((putNum seq) ++ body)) / 2 ^ 16 : Nat) : Int), byteOf (((crc ((putNum seq) ++ body)) / 2 ^ 8 : Nat) : Int), byteOf ((crc ((putNum seq) ++ body) : Nat) : Int)]) ++ ((putNum seq) ++ body)).length : Nat) : Int)) ++ (([byteOf (((crc ((putNum seq) ++ body)) / 2 ^ 24 : Nat) : Int), byteOf (((crc ((putNum seq) ++ body)) / 2 ^ 16 : Nat) : Int), byteOf (((crc ((putNum seq) ++ body)) / 2 ^ 8 : Nat) : Int), byteOf ((crc ((putNum seq) ++ body) : Nat) : Int)]) ++ ((putNum seq) ++ body))))) ?_ () ?_ [] ?_))
                · as_aux_lemma => kernel_rfl
                · simp_all [RV, frameOf, four_nat]
                · rfl
              · -- operation 5 next
                refine RUNV (.convert 62 9 (.tmp 41)) 42 9 ?_ (Nat.le_of_ble_eq_true rfl) (.string (bs (([byteOf (((crc ((putNum seq) ++ body)) / 2 ^ 24 : Nat) : Int), byteOf (((crc ((putNum seq) ++ body)) / 2 ^ 16 : Nat) : Int), byteOf (((crc ((putNum seq) ++ body)) / 2 ^ 8 : Nat) : Int), byteOf ((crc ((putNum seq) ++ body) : Nat) : Int)]) ++ ((putNum seq) ++ body)))) (runs_bstr (a := a11) (n := (([byteOf (((crc ((putNum seq) ++ body)) / 2 ^ 24 : Nat) : Int), byteOf (((crc ((putNum seq) ++ body)) / 2 ^ 16 : Nat) : Int), byteOf (((crc ((putNum seq) ++ body)) / 2 ^ 8 : Nat) : Int), byteOf ((crc ((putNum seq) ++ body) : Nat) : Int)]) ++ ((putNum seq) ++ body)).length) (c := c12) (xs := ([byteOf (((crc ((putNum seq) ++ body)) / 2 ^ 24 : Nat) : Int), byteOf (((crc ((putNum seq) ++ body)) / 2 ^ 16 : Nat) : Int), byteOf (((crc ((putNum seq) ++ body)) / 2 ^ 8 : Nat) : Int), byteOf ((crc ((putNum seq) ++ body) : Nat) : Int)]) ++ ((putNum seq) ++ body)) (e := 5) ?_ ?_ ?_ ?_ rfl (fun w hw => (Rd.own (hw.own 1 rfl)))) ?_
                · as_aux_lemma => kernel_rfl
                · as_aux_lemma => kernel_rfl
                · as_aux_lemma => kernel_rfl
                · as_aux_lemma => kernel_rfl
                · as_aux_lemma => kernel_rfl
                refine ANY1 3 ?_ ?_
                · as_aux_lemma => kernel_rfl
                refine RUNV (.convert 62 9 (.tmp 39)) 40 9 ?_ (Nat.le_of_ble_eq_true rfl) (.string (bs (putNum (((([byteOf (((crc ((putNum seq) ++ body)) / 2 ^ 24 : Nat) : Int), byteOf (((crc ((putNum seq) ++ body)) / 2 ^ 16 : Nat) : Int), byteOf (((crc ((putNum seq) ++ body)) / 2 ^ 8 : Nat) : Int), byteOf ((crc ((putNum seq) ++ body) : Nat) : Int)]) ++ ((putNum seq) ++ body)).length : Nat) : Int)))) (runs_bstr (a := a23) (n := (putNum (((([byteOf (((crc ((putNum seq) ++ body)) / 2 ^ 24 : Nat) : Int), byteOf (((crc ((putNum seq) ++ body)) / 2 ^ 16 : Nat) : Int), byteOf (((crc ((putNum seq) ++ body)) / 2 ^ 8 : Nat) : Int), byteOf ((crc ((putNum seq) ++ body) : Nat) : Int)]) ++ ((putNum seq) ++ body)).length : Nat) : Int)).length) (c := c24) (xs := putNum (((([byteOf (((crc ((putNum seq) ++ body)) / 2 ^ 24 : Nat) : Int), byteOf (((crc ((putNum seq) ++ body)) / 2 ^ 16 : Nat) : Int), byteOf (((crc ((putNum seq) ++ body)) / 2 ^ 8 : Nat) : Int), byteOf ((crc ((putNum seq) ++ body) : Nat) : Int)]) ++ ((putNum seq) ++ body)).length : Nat) : Int)) (e := 5) ?_ ?_ ?_ ?_ rfl (fun w hw => (Rd.own (hw.own 2 rfl)))) ?_
                · as_aux_lemma => kernel_rfl
                · as_aux_lemma => kernel_rfl
                · as_aux_lemma => kernel_rfl
                · as_aux_lemma => kernel_rfl
                · as_aux_lemma => kernel_rfl
                refine ANY1 6 ?_ ?_
                · as_aux_lemma => kernel_rfl
                refine RUNV (.binOp .add 9 (.tmp 40) (.tmp 42) 9) 43 9 ?_ (Nat.le_of_ble_eq_true rfl) (.string (bs ((putNum (((([byteOf (((crc ((putNum seq) ++ body)) / 2 ^ 24 : Nat) : Int), byteOf (((crc ((putNum seq) ++ body)) / 2 ^ 16 : Nat) : Int), byteOf (((crc ((putNum seq) ++ body)) / 2 ^ 8 : Nat) : Int), byteOf ((crc ((putNum seq) ++ body) : Nat) : Int)]) ++ ((putNum seq) ++ body)).length : Nat) : Int)) ++ (([byteOf (((crc ((putNum seq) ++ body)) / 2 ^ 24 : Nat) : Int), byteOf (((crc ((putNum seq) ++ body)) / 2 ^ 16 : Nat) : Int), byteOf (((crc ((putNum seq) ++ body)) / 2 ^ 8 : Nat) : Int), byteOf ((crc ((putNum seq) ++ body) : Nat) : Int)]) ++ ((putNum seq) ++ body))))) (runs_scat (a := putNum (((([byteOf (((crc ((putNum seq) ++ body)) / 2 ^ 24 : Nat) : Int), byteOf (((crc ((putNum seq) ++ body)) / 2 ^ 16 : Nat) : Int), byteOf (((crc ((putNum seq) ++ body)) / 2 ^ 8 : Nat) : Int), byteOf ((crc ((putNum seq) ++ body) : Nat) : Int)]) ++ ((putNum seq) ++ body)).length : Nat) : Int)) (b := ([byteOf (((crc ((putNum seq) ++ body)) / 2 ^ 24 : Nat) : Int), byteOf (((crc ((putNum seq) ++ body)) / 2 ^ 16 : Nat) : Int), byteOf (((crc ((putNum seq) ++ body)) / 2 ^ 8 : Nat) : Int), byteOf ((crc ((putNum seq) ++ body) : Nat) : Int)]) ++ ((putNum seq) ++ body)) ?_ ?_ (by first | omega | (simp only [List.length_append, List.length_cons, List.length_nil, List.length_take, List.length_drop] at *; omega))) ?_
                · as_aux_lemma => kernel_rfl
                · as_aux_lemma => kernel_rfl
                · as_aux_lemma => kernel_rfl
                refine ANY1 7 ?_ ?_
                · as_aux_lemma => kernel_rfl
                refine RUNO [(4, .v (.string (bs ((putNum (((([byteOf (((crc ((putNum seq) ++ body)) / 2 ^ 24 : Nat) : Int), byteOf (((crc ((putNum seq) ++ body)) / 2 ^ 16 : Nat) : Int), byteOf (((crc ((putNum seq) ++ body)) / 2 ^ 8 : Nat) : Int), byteOf ((crc ((putNum seq) ++ body) : Nat) : Int)]) ++ ((putNum seq) ++ body)).length : Nat) : Int)) ++ (([byteOf (((crc ((putNum seq) ++ body)) / 2 ^ 24 : Nat) : Int), byteOf (((crc ((putNum seq) ++ body)) / 2 ^ 16 : Nat) : Int), byteOf (((crc ((putNum seq) ++ body)) / 2 ^ 8 : Nat) : Int), byteOf ((crc ((putNum seq) ++ body) : Nat) : Int)]) ++ ((putNum seq) ++ body))))))] [] ?_ ?_
                · as_aux_lemma => kernel_rfl
                refine ANYEND ?_ ?_
                · as_aux_lemma => kernel_rfl
                refine NEXT (RET (FIN (.string (bs ((putNum (((([byteOf (((crc ((putNum seq) ++ body)) / 2 ^ 24 : Nat) : Int), byteOf (((crc ((putNum seq) ++ body)) / 2 ^ 16 : Nat) : Int), byteOf (((crc ((putNum seq) ++ body)) / 2 ^ 8 : Nat) : Int), byteOf ((crc ((putNum seq) ++ body) : Nat) : Int)]) ++ ((putNum seq) ++ body)).length : Nat) : Int)) ++ (([byteOf (((crc ((putNum seq) ++ body)) / 2 ^ 24 : Nat) : Int), byteOf (((crc ((putNum seq) ++ body)) / 2 ^ 16 : Nat) : Int), byteOf (((crc ((putNum seq) ++ body)) / 2 ^ 8 : Nat) : Int), byteOf ((crc ((putNum seq) ++ body) : Nat) : Int)]) ++ ((putNum seq) ++ body))))) ?_ () ?_ [] ?_))
                · as_aux_lemma => kernel_rfl
                · simp_all [RV, frameOf, four_nat]
                · rfl
            · -- operation 5 next
              refine RUNV (.convert 62 9 (.tmp 41)) 42 9 ?_ (Nat.le_of_ble_eq_true rfl) (.string (bs (([byteOf (((crc ((putNum seq) ++ body)) / 2 ^ 24 : Nat) : Int), byteOf (((crc ((putNum seq) ++ body)) / 2 ^ 16 : Nat) : Int), byteOf (((crc ((putNum seq) ++ body)) / 2 ^ 8 : Nat) : Int), byteOf ((crc ((putNum seq) ++ body) : Nat) : Int)]) ++ ((putNum seq) ++ body)))) (runs_bstr (a := a11) (n := (([byteOf (((crc ((putNum seq) ++ body)) / 2 ^ 24 : Nat) : Int), byteOf (((crc ((putNum seq) ++ body)) / 2 ^ 16 : Nat) : Int), byteOf (((crc ((putNum seq) ++ body)) / 2 ^ 8 : Nat) : Int), byteOf ((crc ((putNum seq) ++ body) : Nat) : Int)]) ++ ((putNum seq) ++ body)).length) (c := c12) (xs := ([byteOf (((crc ((putNum seq) ++ body)) / 2 ^ 24 : Nat) : Int), byteOf (((crc ((putNum seq) ++ body)) / 2 ^ 16 : Nat) : Int), byteOf (((crc ((putNum seq) ++ body)) / 2 ^ 8 : Nat) : Int), byteOf ((crc ((putNum seq) ++ body) : Nat) : Int)]) ++ ((putNum seq) ++ body)) (e := 5) ?_ ?_ ?_ ?_ rfl (fun w hw => (Rd.own (hw.own 1 rfl)))) ?_
              · as_aux_lemma => kernel_rfl
              · as_aux_lemma => kernel_rfl
              · as_aux_lemma => kernel_rfl
              · as_aux_lemma => kernel_rfl
              · as_aux_lemma => kernel_rfl
              refine ANY1 2 ?_ ?_
              · as_aux_lemma => kernel_rfl
              refine CALL 48 #[vi (((([byteOf (((crc ((putNum seq) ++ body)) / 2 ^ 24 : Nat) : Int), byteOf (((crc ((putNum seq) ++ body)) / 2 ^ 16 : Nat) : Int), byteOf (((crc ((putNum seq) ++ body)) / 2 ^ 8 : Nat) : Int), byteOf ((crc ((putNum seq) ++ body) : Nat) : Int)]) ++ ((putNum seq) ++ body)).length : Nat) : Int)] (some 39) ?_ [] [] _ rfl (⟨HH, fun p => .slice p.1 ((putNum (((([byteOf (((crc ((putNum seq) ++ body)) / 2 ^ 24 : Nat) : Int), byteOf (((crc ((putNum seq) ++ body)) / 2 ^ 16 : Nat) : Int), byteOf (((crc ((putNum seq) ++ body)) / 2 ^ 8 : Nat) : Int), byteOf ((crc ((putNum seq) ++ body) : Nat) : Int)]) ++ ((putNum seq) ++ body)).length : Nat) : Int)).length) p.2, fun p => [slA 5 byteL (.slice p.1 (putNum (((([byteOf (((crc ((putNum seq) ++ body)) / 2 ^ 24 : Nat) : Int), byteOf (((crc ((putNum seq) ++ body)) / 2 ^ 16 : Nat) : Int), byteOf (((crc ((putNum seq) ++ body)) / 2 ^ 8 : Nat) : Int), byteOf ((crc ((putNum seq) ++ body) : Nat) : Int)]) ++ ((putNum seq) ++ body)).length : Nat) : Int)).length p.2) (putNum (((([byteOf (((crc ((putNum seq) ++ body)) / 2 ^ 24 : Nat) : Int), byteOf (((crc ((putNum seq) ++ body)) / 2 ^ 16 : Nat) : Int), byteOf (((crc ((putNum seq) ++ body)) / 2 ^ 8 : Nat) : Int), byteOf ((crc ((putNum seq) ++ body) : Nat) : Int)]) ++ ((putNum seq) ++ body)).length : Nat) : Int))]⟩) (fun w hw => iPutNum_c w (((([byteOf (((crc ((putNum seq) ++ body)) / 2 ^ 24 : Nat) : Int), byteOf (((crc ((putNum seq) ++ body)) / 2 ^ 16 : Nat) : Int), byteOf (((crc ((putNum seq) ++ body)) / 2 ^ 8 : Nat) : Int), byteOf ((crc ((putNum seq) ++ body) : Nat) : Int)]) ++ ((putNum seq) ++ body)).length : Nat) : Int)) (by rintro _ ⟨⟩; exact Nat.le_of_ble_eq_true rfl) ?_
              · as_aux_lemma => kernel_rfl
              rintro ⟨a26, c27⟩
              have hr28 := putNum_len (((([byteOf (((crc ((putNum seq) ++ body)) / 2 ^ 24 : Nat) : Int), byteOf (((crc ((putNum seq) ++ body)) / 2 ^ 16 : Nat) : Int), byteOf (((crc ((putNum seq) ++ body)) / 2 ^ 8 : Nat) : Int), byteOf ((crc ((putNum seq) ++ body) : Nat) : Int)]) ++ ((putNum seq) ++ body)).length : Nat) : Int)
              refine ANY1 3 ?_ ?_
              · as_aux_lemma => kernel_rfl
              refine RUNV (.convert 62 9 (.tmp 39)) 40 9 ?_ (Nat.le_of_ble_eq_true rfl) (.string (bs (putNum (((([byteOf (((crc ((putNum seq) ++ body)) / 2 ^ 24 : Nat) : Int), byteOf (((crc ((putNum seq) ++ body)) / 2 ^ 16 : Nat) : Int), byteOf (((crc ((putNum seq) ++ body)) / 2 ^ 8 : Nat) : Int), byteOf ((crc ((putNum seq) ++ body) : Nat) : Int)]) ++ ((putNum seq) ++ body)).length : Nat) : Int)))) (runs_bstr (a := a26) (n := (putNum (((([byteOf (((crc ((putNum seq) ++ body)) / 2 ^ 24 : Nat) : Int), byteOf (((crc ((putNum seq) ++ body)) / 2 ^ 16 : Nat) : Int), byteOf (((crc ((putNum seq) ++ body)) / 2 ^ 8 : Nat) : Int), byteOf ((crc ((putNum seq) ++ body) : Nat) : Int)]) ++ ((putNum seq) ++ body)).length : Nat) : Int)).length) (c := c27) (xs := putNum (((([byteOf (((crc ((putNum seq) ++ body)) / 2 ^ 24 : Nat) : Int), byteOf (((crc ((putNum seq) ++ body)) / 2 ^ 16 : Nat) : Int), byteOf (((crc ((putNum seq) ++ body)) / 2 ^ 8 : Nat) : Int), byteOf ((crc ((putNum seq) ++ body) : Nat) : Int)]) ++ ((putNum seq) ++ body)).length : Nat) : Int)) (e := 5) ?_ ?_ ?_ ?_ rfl (fun w hw => (Rd.own (hw.own 2 rfl)))) ?_
              · as_aux_lemma => kernel_rfl
              · as_aux_lemma => kernel_rfl
              · as_aux_lemma => kernel_rfl
              · as_aux_lemma => kernel_rfl
              · as_aux_lemma => kernel_rfl
              refine ANY1 6 ?_ ?_
              · as_aux_lemma => kernel_rfl
              refine RUNV (.binOp .add 9 (.tmp 40) (.tmp 42) 9) 43 9 ?_ (Nat.le_of_ble_eq_true rfl) (.string (bs ((putNum (((([byteOf (((crc ((putNum seq) ++ body)) / 2 ^ 24 : Nat) : Int), byteOf (((crc ((putNum seq) ++ body)) / 2 ^ 16 : Nat) : Int), byteOf (((crc ((putNum seq) ++ body)) / 2 ^ 8 : Nat) : Int), byteOf ((crc ((putNum seq) ++ body) : Nat) : Int)]) ++ ((putNum seq) ++ body)).length : Nat) : Int)) ++ (([byteOf (((crc ((putNum seq) ++ body)) / 2 ^ 24 : Nat) : Int), byteOf (((crc ((putNum seq) ++ body)) / 2 ^ 16 : Nat) : Int), byteOf (((crc ((putNum seq) ++ body)) / 2 ^ 8 : Nat) : Int), byteOf ((crc ((putNum seq) ++ body) : Nat) : Int)]) ++ ((putNum seq) ++ body))))) (runs_scat (a := putNum (((([byteOf (((crc ((putNum seq) ++ body)) / 2 ^ 24 : Nat) : Int), byteOf (((crc ((putNum seq) ++ body)) / 2 ^ 16 : Nat) : Int), byteOf (((crc ((putNum seq) ++ body)) / 2 ^ 8 : Nat) : Int), byteOf ((crc ((putNum seq) ++ body) : Nat) : Int)]) ++ ((putNum seq) ++ body)).length : Nat) : Int)) (b := ([byteOf (((crc ((putNum seq) ++ body)) / 2 ^ 24 : Nat) : Int), byteOf (((crc ((putNum seq) ++ body)) / 2 ^ 16 : Nat) : Int), byteOf (((crc ((putNum seq) ++ body)) / 2 ^ 8 : Nat) : Int), byteOf ((crc ((putNum seq) ++ body) : Nat) : Int)]) ++ ((putNum seq) ++ body)) ?_ ?_ (by first | omega | (simp only [List.length_append, List.length_cons, List.length_nil, List.length_take, List.length_drop] at *; omega))) ?_
              · as_aux_lemma => kernel_rfl
              · as_aux_lemma => kernel_rfl
              · as_aux_lemma => kernel_rfl
              refine ANY1 7 ?_ ?_
              · as_aux_lemma => kernel_rfl
              refine RUNO [(4, .v (.string (bs ((putNum (((([byteOf (((crc ((putNum seq) ++ body)) / 2 ^ 24 : Nat) : Int), byteOf (((crc ((putNum seq) ++ body)) / 2 ^ 16 : Nat) : Int), byteOf (((crc ((putNum seq) ++ body)) / 2 ^ 8 : Nat) : Int), byteOf ((crc ((putNum seq) ++ body) : Nat) : Int)]) ++ ((putNum seq) ++ body)).length : Nat) : Int)) ++ (([byteOf (((crc ((putNum seq) ++ body)) / 2 ^ 24 : Nat) : Int), byteOf (((crc ((putNum seq) ++ body)) / 2 ^ 16 : Nat) : Int), byteOf (((crc ((putNum seq) ++ body)) / 2 ^ 8 : Nat) : Int), byteOf ((crc ((putNum seq) ++ body) : Nat) : Int)]) ++ ((putNum seq) ++ body))))))] [] ?_ ?_
              · as_aux_lemma => kernel_rfl
              refine ANYEND ?_ ?_
              · as_aux_lemma => kernel_rfl
              refine NEXT (RET (FIN (.string (bs ((putNum (((([byteOf (((crc ((putNum seq) ++ body)) / 2 ^ 24 : Nat) : Int), byteOf (((crc ((putNum seq) ++ body)) / 2 ^ 16 : Nat) : Int), byteOf (((crc ((putNum seq) ++ body)) / 2 ^ 8 : Nat) : Int), byteOf ((crc ((putNum seq) ++ body) : Nat) : Int)]) ++ ((putNum seq) ++ body)).length : Nat) : Int)) ++ (([byteOf (((crc ((putNum seq) ++ body)) / 2 ^ 24 : Nat) : Int), byteOf (((crc ((putNum seq) ++ body)) / 2 ^ 16 : Nat) : Int), byteOf (((crc ((putNum seq) ++ body)) / 2 ^ 8 : Nat) : Int), byteOf ((crc ((putNum seq) ++ body) : Nat) : Int)]) ++ ((putNum seq) ++ body))))) ?_ () ?_ [] ?_))
              · as_aux_lemma => kernel_rfl
              · simp_all [RV, frameOf, four_nat]
              · rfl
          · -- operation 5 next
            refine RUNV (.convert 62 9 (.tmp 41)) 42 9 ?_ (Nat.le_of_ble_eq_true rfl) (.string (bs (([byteOf (((crc ((putNum seq) ++ body)) / 2 ^ 24 : Nat) : Int), byteOf (((crc ((putNum seq) ++ body)) / 2 ^ 16 : Nat) : Int), byteOf (((crc ((putNum seq) ++ body)) / 2 ^ 8 : Nat) : Int), byteOf ((crc ((putNum seq) ++ body) : Nat) : Int)]) ++ ((putNum seq) ++ body)))) (runs_bstr (a := a11) (n := (([byteOf (((crc ((putNum seq) ++ body)) / 2 ^ 24 : Nat) : Int), byteOf (((crc ((putNum seq) ++ body)) / 2 ^ 16 : Nat) : Int), byteOf (((crc ((putNum seq) ++ body)) / 2 ^ 8 : Nat) : Int), byteOf ((crc ((putNum seq) ++ body) : Nat) : Int)]) ++ ((putNum seq) ++ body)).length) (c := c12) (xs := ([byteOf (((crc ((putNum seq) ++ body)) / 2 ^ 24 : Nat) : Int), byteOf (((crc ((putNum seq) ++ body)) / 2 ^ 16 : Nat) : Int), byteOf (((crc ((putNum seq) ++ body)) / 2 ^ 8 : Nat) : Int), byteOf ((crc ((putNum seq) ++ body) : Nat) : Int)]) ++ ((putNum seq) ++ body)) (e := 5) ?_ ?_ ?_ ?_ rfl (fun w hw => (Rd.own (hw.own 1 rfl)))) ?_
            · as_aux_lemma => kernel_rfl
            · as_aux_lemma => kernel_rfl
            · as_aux_lemma => kernel_rfl
            · as_aux_lemma => kernel_rfl
            · as_aux_lemma => kernel_rfl
            refine ANY1 1 ?_ ?_
            · as_aux_lemma => kernel_rfl
            refine RUNO [(38, I (((([byteOf (((crc ((putNum seq) ++ body)) / 2 ^ 24 : Nat) : Int), byteOf (((crc ((putNum seq) ++ body)) / 2 ^ 16 : Nat) : Int), byteOf (((crc ((putNum seq) ++ body)) / 2 ^ 8 : Nat) : Int), byteOf ((crc ((putNum seq) ++ body) : Nat) : Int)]) ++ ((putNum seq) ++ body)).length : Nat) : Int)), (42, .v (.string (bs (([byteOf (((crc ((putNum seq) ++ body)) / 2 ^ 24 : Nat) : Int), byteOf (((crc ((putNum seq) ++ body)) / 2 ^ 16 : Nat) : Int), byteOf (((crc ((putNum seq) ++ body)) / 2 ^ 8 : Nat) : Int), byteOf ((crc ((putNum seq) ++ body) : Nat) : Int)]) ++ ((putNum seq) ++ body)))))] [] ?_ ?_
            · as_aux_lemma => kernel_rfl
            refine ANY1 2 ?_ ?_
            · as_aux_lemma => kernel_rfl
            refine CALL 48 #[vi (((([byteOf (((crc ((putNum seq) ++ body)) / 2 ^ 24 : Nat) : Int), byteOf (((crc ((putNum seq) ++ body)) / 2 ^ 16 : Nat) : Int), byteOf (((crc ((putNum seq) ++ body)) / 2 ^ 8 : Nat) : Int), byteOf ((crc ((putNum seq) ++ body) : Nat) : Int)]) ++ ((putNum seq) ++ body)).length : Nat) : Int)] (some 39) ?_ [] [] _ rfl (⟨HH, fun p => .slice p.1 ((putNum (((([byteOf (((crc ((putNum seq) ++ body)) / 2 ^ 24 : Nat) : Int), byteOf (((crc ((putNum seq) ++ body)) / 2 ^ 16 : Nat) : Int), byteOf (((crc ((putNum seq) ++ body)) / 2 ^ 8 : Nat) : Int), byteOf ((crc ((putNum seq) ++ body) : Nat) : Int)]) ++ ((putNum seq) ++ body)).length : Nat) : Int)).length) p.2, fun p => [slA 5 byteL (.slice p.1 (putNum (((([byteOf (((crc ((putNum seq) ++ body)) / 2 ^ 24 : Nat) : Int), byteOf (((crc ((putNum seq) ++ body)) / 2 ^ 16 : Nat) : Int), byteOf (((crc ((putNum seq) ++ body)) / 2 ^ 8 : Nat) : Int), byteOf ((crc ((putNum seq) ++ body) : Nat) : Int)]) ++ ((putNum seq) ++ body)).length : Nat) : Int)).length p.2) (putNum (((([byteOf (((crc ((putNum seq) ++ body)) / 2 ^ 24 : Nat) : Int), byteOf (((crc ((putNum seq) ++ body)) / 2 ^ 16 : Nat) : Int), byteOf (((crc ((putNum seq) ++ body)) / 2 ^ 8 : Nat) : Int), byteOf ((crc ((putNum seq) ++ body) : Nat) : Int)]) ++ ((putNum seq) ++ body)).length : Nat) : Int))]⟩) (fun w hw => iPutNum_c w (((([byteOf (((crc ((putNum seq) ++ body)) / 2 ^ 24 : Nat) : Int), byteOf (((crc ((putNum seq) ++ body)) / 2 ^ 16 : Nat) : Int), byteOf (((crc ((putNum seq) ++ body)) / 2 ^ 8 : Nat) : Int), byteOf ((crc ((putNum seq) ++ body) : Nat) : Int)]) ++ ((putNum seq) ++ body)).length : Nat) : Int)) (by rintro _ ⟨⟩; exact Nat.le_of_ble_eq_true rfl) ?_
            · as_aux_lemma => kernel_rfl
            rintro ⟨a29, c30⟩
            have hr31 := putNum_len (((([byteOf (((crc ((putNum seq) ++ body)) / 2 ^ 24 : Nat) : Int), byteOf (((crc ((putNum seq) ++ body)) / 2 ^ 16 : Nat) : Int), byteOf (((crc ((putNum seq) ++ body)) / 2 ^ 8 : Nat) : Int), byteOf ((crc ((putNum seq) ++ body) : Nat) : Int)]) ++ ((putNum seq) ++ body)).length : Nat) : Int)
            refine ANY1 3 ?_ ?_
            · as_aux_lemma => kernel_rfl
            refine RUNV (.convert 62 9 (.tmp 39)) 40 9 ?_ (Nat.le_of_ble_eq_true rfl) (.string (bs (putNum (((([byteOf (((crc ((putNum seq) ++ body)) / 2 ^ 24 : Nat) : Int), byteOf (((crc ((putNum seq) ++ body)) / 2 ^ 16 : Nat) : Int), byteOf (((crc ((putNum seq) ++ body)) / 2 ^ 8 : Nat) : Int), byteOf ((crc ((putNum seq) ++ body) : Nat) : Int)]) ++ ((putNum seq) ++ body)).length : Nat) : Int)))) (runs_bstr (a := a29) (n := (putNum (((([byteOf (((crc ((putNum seq) ++ body)) / 2 ^ 24 : Nat) : Int), byteOf (((crc ((putNum seq) ++ body)) / 2 ^ 16 : Nat) : Int), byteOf (((crc ((putNum seq) ++ body)) / 2 ^ 8 : Nat) : Int), byteOf ((crc ((putNum seq) ++ body) : Nat) : Int)]) ++ ((putNum seq) ++ body)).length : Nat) : Int)).length) (c := c30) (xs := putNum (((([byteOf (((crc ((putNum seq) ++ body)) / 2 ^ 24 : Nat) : Int), byteOf (((crc ((putNum seq) ++ body)) / 2 ^ 16 : Nat) : Int), byteOf (((crc ((putNum seq) ++ body)) / 2 ^ 8 : Nat) : Int), byteOf ((crc ((putNum seq) ++ body) : Nat) : Int)]) ++ ((putNum seq) ++ body)).length : Nat) : Int)) (e := 5) ?_ ?_ ?_ ?_ rfl (fun w hw => (Rd.own (hw.own 2 rfl)))) ?_
            · as_aux_lemma => kernel_rfl
            · as_aux_lemma => kernel_rfl
            · as_aux_lemma => kernel_rfl
            · as_aux_lemma => kernel_rfl
            · as_aux_lemma => kernel_rfl
            refine ANY1 6 ?_ ?_
            · as_aux_lemma => kernel_rfl
            refine RUNV (.binOp .add 9 (.tmp 40) (.tmp 42) 9) 43 9 ?_ (Nat.le_of_ble_eq_true rfl) (.string (bs ((putNum (((([byteOf (((crc ((putNum seq) ++ body)) / 2 ^ 24 : Nat) : Int), byteOf (((crc ((putNum seq) ++ body)) / 2 ^ 16 : Nat) : Int), byteOf (((crc ((putNum seq) ++ body)) / 2 ^ 8 : Nat) : Int), byteOf ((crc ((putNum seq) ++ body) : Nat) : Int)]) ++ ((putNum seq) ++ body)).length : Nat) : Int)) ++ (([byteOf (((crc ((putNum seq) ++ body)) / 2 ^ 24 : Nat) : Int), byteOf (((crc ((putNum seq) ++ body)) / 2 ^ 16 : Nat) : Int), byteOf (((crc ((putNum seq) ++ body)) / 2 ^ 8 : Nat) : Int), byteOf ((crc ((putNum seq) ++ body) : Nat) : Int)]) ++ ((putNum seq) ++ body))))) (runs_scat (a := putNum (((([byteOf (((crc ((putNum seq) ++ body)) / 2 ^ 24 : Nat) : Int), byteOf (((crc ((putNum seq) ++ body)) / 2 ^ 16 : Nat) : Int), byteOf (((crc ((putNum seq) ++ body)) / 2 ^ 8 : Nat) : Int), byteOf ((crc ((putNum seq) ++ body) : Nat) : Int)]) ++ ((putNum seq) ++ body)).length : Nat) : Int)) (b := ([byteOf (((crc ((putNum seq) ++ body)) / 2 ^ 24 : Nat) : Int), byteOf (((crc ((putNum seq) ++ body)) / 2 ^ 16 : Nat) : Int), byteOf (((crc ((putNum seq) ++ body)) / 2 ^ 8 : Nat) : Int), byteOf ((crc ((putNum seq) ++ body) : Nat) : Int)]) ++ ((putNum seq) ++ body)) ?_ ?_ (by first | omega | (simp only [List.length_append, List.length_cons, List.length_nil, List.length_take, List.length_drop] at *; omega))) ?_
            · as_aux_lemma => kernel_rfl
            · as_aux_lemma => kernel_rfl
            · as_aux_lemma => kernel_rfl
            refine ANY1 7 ?_ ?_
            · as_aux_lemma => kernel_rfl
            refine RUNO [(4, .v (.string (bs ((putNum (((([byteOf (((crc ((putNum seq) ++ body)) / 2 ^ 24 : Nat) : Int), byteOf (((crc ((putNum seq) ++ body)) / 2 ^ 16 : Nat) : Int), byteOf (((crc ((putNum seq) ++ body)) / 2 ^ 8 : Nat) : Int), byteOf ((crc ((putNum seq) ++ body) : Nat) : Int)]) ++ ((putNum seq) ++ body)).length : Nat) : Int)) ++ (([byteOf (((crc ((putNum seq) ++ body)) / 2 ^ 24 : Nat) : Int), byteOf (((crc ((putNum seq) ++ body)) / 2 ^ 16 : Nat) : Int), byteOf (((crc ((putNum seq) ++ body)) / 2 ^ 8 : Nat) : Int), byteOf ((crc ((putNum seq) ++ body) : Nat) : Int)]) ++ ((putNum seq) ++ body))))))] [] ?_ ?_
            · as_aux_lemma => kernel_rfl
            refine ANYEND ?_ ?_
            · as_aux_lemma => kernel_rfl
            refine NEXT (RET (FIN (.string (bs ((putNum (((([byteOf (((crc ((putNum seq) ++ body)) / 2 ^ 24 : Nat) : Int), byteOf (((crc ((putNum seq) ++ body)) / 2 ^ 16 : Nat) : Int), byteOf (((crc ((putNum seq) ++ body)) / 2 ^ 8 : Nat) : Int), byteOf ((crc ((putNum seq) ++ body) : Nat) : Int)]) ++ ((putNum seq) ++ body)).length : Nat) : Int)) ++ (([byteOf (((crc ((putNum seq) ++ body)) / 2 ^ 24 : Nat) : Int), byteOf (((crc ((putNum seq) ++ body)) / 2 ^ 16 : Nat) : Int), byteOf (((crc ((putNum seq) ++ body)) / 2 ^ 8 : Nat) : Int), byteOf ((crc ((putNum seq) ++ body) : Nat) : Int)]) ++ ((putNum seq) ++ body))))) ?_ () ?_ [] ?_))
            · as_aux_lemma => kernel_rfl
            · simp_all [RV, frameOf, four_nat]
            · rfl
      · -- operation 4 next
        refine RUNO [(7, .v (.slice a11 ((([byteOf (((crc ((putNum seq) ++ body)) / 2 ^ 24 : Nat) : Int), byteOf (((crc ((putNum seq) ++ body)) / 2 ^ 16 : Nat) : Int), byteOf (((crc ((putNum seq) ++ body)) / 2 ^ 8 : Nat) : Int), byteOf ((crc ((putNum seq) ++ body) : Nat) : Int)]) ++ ((putNum seq) ++ body)).length) c12)), (41, .v (.slice a11 ((([byteOf (((crc ((putNum seq) ++ body)) / 2 ^ 24 : Nat) : Int), byteOf (((crc ((putNum seq) ++ body)) / 2 ^ 16 : Nat) : Int), byteOf (((crc ((putNum seq) ++ body)) / 2 ^ 8 : Nat) : Int), byteOf ((crc ((putNum seq) ++ body) : Nat) : Int)]) ++ ((putNum seq) ++ body)).length) c12))] [] ?_ ?_
        · as_aux_lemma => kernel_rfl
        refine ANY2 0 5 ?_ ?_ ?_
        · as_aux_lemma => kernel_rfl
        · -- operation 0 next
          refine RUNO [(37, .v (.slice a11 ((([byteOf (((crc ((putNum seq) ++ body)) / 2 ^ 24 : Nat) : Int), byteOf (((crc ((putNum seq) ++ body)) / 2 ^ 16 : Nat) : Int), byteOf (((crc ((putNum seq) ++ body)) / 2 ^ 8 : Nat) : Int), byteOf ((crc ((putNum seq) ++ body) : Nat) : Int)]) ++ ((putNum seq) ++ body)).length) c12)), (41, .v (.slice a11 ((([byteOf (((crc ((putNum seq) ++ body)) / 2 ^ 24 : Nat) : Int), byteOf (((crc ((putNum seq) ++ body)) / 2 ^ 16 : Nat) : Int), byteOf (((crc ((putNum seq) ++ body)) / 2 ^ 8 : Nat) : Int), byteOf ((crc ((putNum seq) ++ body) : Nat) : Int)]) ++ ((putNum seq) ++ body)).length) c12))] [] ?_ ?_
          · as_aux_lemma => kernel_rfl
          refine ANY2 1 5 ?_ ?_ ?_
          · as_aux_lemma => kernel_rfl
          · -- operation 1 next
            refine RUNO [(38, I (((([byteOf (((crc ((putNum seq) ++ body)) / 2 ^ 24 : Nat) : Int), byteOf (((crc ((putNum seq) ++ body)) / 2 ^ 16 : Nat) : Int), byteOf (((crc ((putNum seq) ++ body)) / 2 ^ 8 : Nat) : Int), byteOf ((crc ((putNum seq) ++ body) : Nat) : Int)]) ++ ((putNum seq) ++ body)).length : Nat) : Int)), (41, .v (.slice a11 ((([byteOf (((crc ((putNum seq) ++ body)) / 2 ^ 24 : Nat) : Int), byteOf (((crc ((putNum seq) ++ body)) / 2 ^ 16 : Nat) : Int), byteOf (((crc ((putNum seq) ++ body)) / 2 ^ 8 : Nat) : Int), byteOf ((crc ((putNum seq) ++ body) : Nat) : Int)]) ++ ((putNum seq) ++ body)).length) c12))] [] ?_ ?_
            · as_aux_lemma => kernel_rfl
            refine ANY2 2 5 ?_ ?_ ?_
            · as_aux_lemma => kernel_rfl
            · -- operation 2 next
              refine CALL 48 #[vi (((([byteOf (((crc ((putNum seq) ++ body)) / 2 ^ 24 : Nat) : Int), byteOf (((crc ((putNum seq) ++ body)) / 2 ^ 16 : Nat) : Int), byteOf (((crc ((putNum seq) ++ body)) / 2 ^ 8 : Nat) : Int), byteOf ((crc ((putNum seq) ++ body) : Nat) : Int)]) ++ ((putNum seq) ++ body)).length : Nat) : Int)] (some 39) ?_ [] [] _ rfl (⟨HH, fun p => .slice p.1 ((putNum (((([byteOf (((crc ((putNum seq) ++ body)) / 2 ^ 24 : Nat) : Int), byteOf (((crc ((putNum seq) ++ body)) / 2 ^ 16 : Nat) : Int), byteOf (((crc ((putNum seq) ++ body)) / 2 ^ 8 : Nat) : Int), byteOf ((crc ((putNum seq) ++ body) : Nat) : Int)]) ++ ((putNum seq) ++ body)).length : Nat) : Int)).length) p.2, fun p => [slA 5 byteL (.slice p.1 (putNum (((([byteOf (((crc ((putNum seq) ++ body)) / 2 ^ 24 : Nat) : Int), byteOf (((crc ((putNum seq) ++ body)) / 2 ^ 16 : Nat) : Int), byteOf (((crc ((putNum seq) ++ body)) / 2 ^ 8 : Nat) : Int), byteOf ((crc ((putNum seq) ++ body) : Nat) : Int)]) ++ ((putNum seq) ++ body)).length : Nat) : Int)).length p.2) (putNum (((([byteOf (((crc ((putNum seq) ++ body)) / 2 ^ 24 : Nat) : Int), byteOf (((crc ((putNum seq) ++ body)) / 2 ^ 16 : Nat) : Int), byteOf (((crc ((putNum seq) ++ body)) / 2 ^ 8 : Nat) : Int), byteOf ((crc ((putNum seq) ++ body) : Nat) : Int)]) ++ ((putNum seq) ++ body)).length : Nat) : Int))]⟩) (fun w hw => iPutNum_c w (((([byteOf (((crc ((putNum seq) ++ body)) / 2 ^ 24 : Nat) : Int), byteOf (((crc ((putNum seq) ++ body)) / 2 ^ 16 : Nat) : Int), byteOf (((crc ((putNum seq) ++ body)) / 2 ^ 8 : Nat) : Int), byteOf ((crc ((putNum seq) ++ body) : Nat) : Int)]) ++ ((putNum seq) ++ body)).length : Nat) : Int)) (by rintro _ ⟨⟩; exact Nat.le_of_ble_eq_true rfl) ?_
              · as_aux_lemma => kernel_rfl
              rintro ⟨a32, c33⟩
              have hr34 := putNum_len (((([byteOf (((crc ((putNum seq) ++ body)) / 2 ^ 24 : Nat) : Int), byteOf (((crc ((putNum seq) ++ body)) / 2 ^ 16 : Nat) : Int), byteOf (((crc ((putNum seq) ++ body)) / 2 ^ 8 : Nat) : Int), byteOf ((crc ((putNum seq) ++ body) : Nat) : Int)]) ++ ((putNum seq) ++ body)).length : Nat) : Int)
              refine ANY2 3 5 ?_ ?_ ?_
              · as_aux_lemma => kernel_rfl
              · -- operation 3 next
                refine RUNV (.convert 62 9 (.tmp 39)) 40 9 ?_ (Nat.le_of_ble_eq_true rfl) (.string (bs (putNum (((([byteOf (((crc ((putNum seq) ++ body)) / 2 ^ 24 : Nat) : Int), byteOf (((crc ((putNum seq) ++ body)) / 2 ^ 16 : Nat) : Int), byteOf (((crc ((putNum seq) ++ body)) / 2 ^ 8 : Nat) : Int), byteOf ((crc ((putNum seq) ++ body) : Nat) : Int)]) ++ ((putNum seq) ++ body)).length : Nat) : Int)))) (runs_bstr (a := a32) (n := (putNum (((([byteOf (((crc ((putNum seq) ++ body)) / 2 ^ 24 : Nat) : Int), byteOf (((crc ((putNum seq) ++ body)) / 2 ^ 16 : Nat) : Int), byteOf (((crc ((putNum seq) ++ body)) / 2 ^ 8 : Nat) : Int), byteOf ((crc ((putNum seq) ++ body) : Nat) : Int)]) ++ ((putNum seq) ++ body)).length : Nat) : Int)).length) (c := c33) (xs := putNum (((([byteOf (((crc ((putNum seq) ++ body)) / 2 ^ 24 : Nat) : Int), byteOf (((crc ((putNum seq) ++ body)) / 2 ^ 16 : Nat) : Int), byteOf (((crc ((putNum seq) ++ body)) / 2 ^ 8 : Nat) : Int), byteOf ((crc ((putNum seq) ++ body) : Nat) : Int)]) ++ ((putNum seq) ++ body)).length : Nat) : Int)) (e := 5) ?_ ?_ ?_ ?_ rfl (fun w hw => (Rd.own (hw.own 2 rfl)))) ?_
                · as_aux_lemma => kernel_rfl
                · as_aux_lemma => kernel_rfl
                · as_aux_lemma => kernel_rfl
                · as_aux_lemma => kernel_rfl
                · as_aux_lemma => kernel_rfl
                refine ANY1 5 ?_ ?_
                · as_aux_lemma => kernel_rfl
                refine RUNV (.convert 62 9 (.tmp 41)) 42 9 ?_ (Nat.le_of_ble_eq_true rfl) (.string (bs (([byteOf (((crc ((putNum seq) ++ body)) / 2 ^ 24 : Nat) : Int), byteOf (((crc ((putNum seq) ++ body)) / 2 ^ 16 : Nat) : Int), byteOf (((crc ((putNum seq) ++ body)) / 2 ^ 8 : Nat) : Int), byteOf ((crc ((putNum seq) ++ body) : Nat) : Int)]) ++ ((putNum seq) ++ body)))) (runs_bstr (a := a11) (n := (([byteOf (((crc ((putNum seq) ++ body)) / 2 ^ 24 : Nat) : Int), byteOf (((crc ((putNum seq) ++ body)) / 2 ^ 16 : Nat) : Int), byteOf (((crc ((putNum seq) ++ body)) / 2 ^ 8 : Nat) : Int), byteOf ((crc ((putNum seq) ++ body) : Nat) : Int)]) ++ ((putNum seq) ++ body)).length) (c := c12) (xs := ([byteOf (((crc ((putNum seq) ++ body)) / 2 ^ 24 : Nat) : Int), byteOf (((crc ((putNum seq) ++ body)) / 2 ^ 16 : Nat) : Int), byteOf (((crc ((putNum seq) ++ body)) / 2 ^ 8 : Nat) : Int), byteOf ((crc ((putNum seq) ++ body) : Nat) : Int)]) ++ ((putNum seq) ++ body)) (e := 5) ?_ ?_ ?_ ?_ rfl (fun w hw => (Rd.own (hw.own 1 rfl)))) ?_
                · as_aux_lemma => kernel_rfl
                · as_aux_lemma => kernel_rfl
                · as_aux_lemma => kernel_rfl
                · as_aux_lemma => kernel_rfl
                · as_aux_lemma => kernel_rfl
                refine ANY1 6 ?_ ?_
                · as_aux_lemma => kernel_rfl
                refine RUNV (.binOp .add 9 (.tmp 40) (.tmp 42) 9) 43 9 ?_ (Nat.le_of_ble_eq_true rfl) (.string (bs ((putNum (((([byteOf (((crc ((putNum seq) ++ body)) / 2 ^ 24 : Nat) : Int), byteOf (((crc ((putNum seq) ++ body)) / 2 ^ 16 : Nat) : Int), byteOf (((crc ((putNum seq) ++ body)) / 2 ^ 8 : Nat) : Int), byteOf ((crc ((putNum seq) ++ body) : Nat) : Int)]) ++ ((putNum seq) ++ body)).length : Nat) : Int)) ++ (([byteOf (((crc ((putNum seq) ++ body)) / 2 ^ 24 : Nat) : Int), byteOf (((crc ((putNum seq) ++ body)) / 2 ^ 16 : Nat) : Int), byteOf (((crc ((putNum seq) ++ body)) / 2 ^ 8 : Nat) : Int), byteOf ((crc ((putNum seq) ++ body) : Nat) : Int)]) ++ ((putNum seq) ++ body))))) (runs_scat (a := putNum (((([byteOf (((crc ((putNum seq) ++ body)) / 2 ^ 24 : Nat) : Int), byteOf (((crc ((putNum seq) ++ body)) / 2 ^ 16 : Nat) : Int), byteOf (((crc ((putNum seq) ++ body)) / 2 ^ 8 : Nat) : Int), byteOf ((crc ((putNum seq) ++ body) : Nat) : Int)]) ++ ((putNum seq) ++ body)).length : Nat) : Int)) (b := ([byteOf (((crc ((putNum seq) ++ body)) / 2 ^ 24 : Nat) : Int), byteOf (((crc ((putNum seq) ++ body)) / 2 ^ 16 : Nat) : Int), byteOf (((crc ((putNum seq) ++ body)) / 2 ^ 8 : Nat) : Int), byteOf ((crc ((putNum seq) ++ body) : Nat) : Int)]) ++ ((putNum seq) ++ body)) ?_ ?_ (by first | omega | (simp only [List.length_append, List.length_cons, List.length_nil, List.length_take, List.length_drop] at *; omega))) ?_
                · as_aux_lemma => kernel_rfl
                · as_aux_lemma => kernel_rfl
                · as_aux_lemma => kernel_rfl
                refine ANY1 7 ?_ ?_
                · as_aux_lemma => kernel_rfl
                refine RUNO [(4, .v (.string (bs ((putNum (((([byteOf (((crc ((putNum seq) ++ body)) / 2 ^ 24 : Nat) : Int), byteOf (((crc ((putNum seq) ++ body)) / 2 ^ 16 : Nat) : Int), byteOf (((crc ((putNum seq) ++ body)) / 2 ^ 8 : Nat) : Int), byteOf ((crc ((putNum seq) ++ body) : Nat) : Int)]) ++ ((putNum seq) ++ body)).length : Nat) : Int)) ++ (([byteOf (((crc ((putNum seq) ++ body)) / 2 ^ 24 : Nat) : Int), byteOf (((crc ((putNum seq) ++ body)) / 2 ^ 16 : Nat) : Int), byteOf (((crc ((putNum seq) ++ body)) / 2 ^ 8 : Nat) : Int), byteOf ((crc ((putNum seq) ++ body) : Nat) : Int)]) ++ ((putNum seq) ++ body))))))] [] ?_ ?_
                · as_aux_lemma => kernel_rfl
                refine ANYEND ?_ ?_
                · as_aux_lemma => kernel_rfl
                refine NEXT (RET (FIN (.string (bs ((putNum (((([byteOf (((crc ((putNum seq) ++ body)) / 2 ^ 24 : Nat) : Int), byteOf (((crc ((putNum seq) ++ body)) / 2 ^ 16 : Nat) : Int), byteOf (((crc ((putNum seq) ++ body)) / 2 ^ 8 : Nat) : Int), byteOf ((crc ((putNum seq) ++ body) : Nat) : Int)]) ++ ((putNum seq) ++ body)).length : Nat) : Int)) ++ (([byteOf (((crc ((putNum seq) ++ body)) / 2 ^ 24 : Nat) : Int), byteOf (((crc ((putNum seq) ++ body)) / 2 ^ 16 : Nat) : Int), byteOf (((crc ((putNum seq) ++ body)) / 2 ^ 8 : Nat) : Int), byteOf ((crc ((putNum seq) ++ body) : Nat) : Int)]) ++ ((putNum seq) ++ body))))) ?_ () ?_ [] ?_))
                · as_aux_lemma => kernel_rfl
                · simp_all [RV, frameOf, four_nat]
                · rfl
              · -- operation 5 next
                refine RUNV (.convert 62 9 (.tmp 41)) 42 9 ?_ (Nat.le_of_ble_eq_true rfl) (.string (bs (([byteOf (((crc ((putNum seq) ++ body)) / 2 ^ 24 : Nat) : Int), byteOf (((crc ((putNum seq) ++ body)) / 2 ^ 16 : Nat) : Int), byteOf (((crc ((putNum seq) ++ body)) / 2 ^ 8 : Nat) : Int), byteOf ((crc ((putNum seq) ++ body) : Nat) : Int)]) ++ ((putNum seq) ++ body)))) (runs_bstr (a := a11) (n := (([byteOf (((crc ((putNum seq) ++ body)) / 2 ^ 24 : Nat) : Int), byteOf (((crc ((putNum seq) ++ body)) / 2 ^ 16 : Nat) : Int), byteOf (((crc ((putNum seq) ++ body)) / 2 ^ 8 : Nat) : Int), byteOf ((crc ((putNum seq) ++ body) : Nat) : Int)]) ++ ((putNum seq) ++ body)).length) (c := c12) (xs := ([byteOf (((crc ((putNum seq) ++ body)) / 2 ^ 24 : Nat) : Int), byteOf (((crc ((putNum seq) ++ body)) / 2 ^ 16 : Nat) : Int), byteOf (((crc ((putNum seq) ++ body)) / 2 ^ 8 : Nat) : Int), byteOf ((crc ((putNum seq) ++ body) : Nat) : Int)]) ++ ((putNum seq) ++ body)) (e := 5) ?_ ?_ ?_ ?_ rfl (fun w hw => (Rd.own (hw.own 1 rfl)))) ?_
                · as_aux_lemma => kernel_rfl
                · as_aux_lemma => kernel_rfl
                · as_aux_lemma => kernel_rfl
                · as_aux_lemma => kernel_rfl
                · as_aux_lemma => kernel_rfl
                refine ANY1 3 ?_ ?_
                · as_aux_lemma => kernel_rfl
                refine RUNV (.convert 62 9 (.tmp 39)) 40 9 ?_ (Nat.le_of_ble_eq_true rfl) (.string (bs (putNum (((([byteOf (((crc ((putNum seq) ++ body)) / 2 ^ 24 : Nat) : Int), byteOf (((crc ((putNum seq) ++ body)) / 2 ^ 16 : Nat) : Int), byteOf (((crc ((putNum seq) ++ body)) / 2 ^ 8 : Nat) : Int), byteOf ((crc ((putNum seq) ++ body) : Nat) : Int)]) ++ ((putNum seq) ++ body)).length : Nat) : Int)))) (runs_bstr (a := a32) (n := (putNum (((([byteOf (((crc ((putNum seq) ++ body)) / 2 ^ 24 : Nat) : Int), byteOf (((crc ((putNum seq) ++ body)) / 2 ^ 16 : Nat) : Int), byteOf (((crc ((putNum seq) ++ body)) / 2 ^ 8 : Nat) : Int), byteOf ((crc ((putNum seq) ++ body) : Nat) : Int)]) ++ ((putNum seq) ++ body)).length : Nat) : Int)).length) (c := c33) (xs := putNum (((([byteOf (((crc ((putNum seq) ++ body)) / 2 ^ 24 : Nat) : Int), byteOf (((crc ((putNum seq) ++ body)) / 2 ^ 16 : Nat) : Int), byteOf (((crc ((putNum seq) ++ body)) / 2 ^ 8 : Nat) : Int), byteOf ((crc ((putNum seq) ++ body) : Nat) : Int)]) ++ ((putNum seq) ++ body)).length : Nat) : Int)) (e := 5) ?_ ?_ ?_ ?_ rfl (fun w hw => (Rd.own (hw.own 2 rfl)))) ?_
                · as_aux_lemma => kernel_rfl
                · as_aux_lemma => kernel_rfl
                · as_aux_lemma => kernel_rfl
                · as_aux_lemma => kernel_rfl
                · as_aux_lemma => kernel_rfl
                refine ANY1 6 ?_ ?_
                · as_aux_lemma => kernel_rfl
                refine RUNV (.binOp .add 9 (.tmp 40) (.tmp 42) 9) 43 9 ?_ (Nat.le_of_ble_eq_true rfl) (.string (bs ((putNum (((([byteOf (((crc ((putNum seq) ++ body)) / 2 ^ 24 : Nat) : Int), byteOf (((crc ((putNum seq) ++ body)) / 2 ^ 16 : Nat) : Int), byteOf (((crc ((putNum seq) ++ body)) / 2 ^ 8 : Nat) : Int), byteOf ((crc ((putNum seq) ++ body) : Nat) : Int)]) ++ ((putNum seq) ++ body)).length : Nat) : Int)) ++ (([byteOf (((crc ((putNum seq) ++ body)) / 2 ^ 24 : Nat) : Int), byteOf (((crc ((putNum seq) ++ body)) / 2 ^ 16 : Nat) : Int), byteOf (((crc ((putNum seq) ++ body)) / 2 ^ 8 : Nat) : Int), byteOf ((crc ((putNum seq) ++ body) : Nat) : Int)]) ++ ((putNum seq) ++ body))))) (runs_scat (a := putNum (((([byteOf (((crc ((putNum seq) ++ body)) / 2 ^ 24 : Nat) : Int), byteOf (((crc ((putNum seq) ++ body)) / 2 ^ 16 : Nat) : Int), byteOf (((crc ((putNum seq) ++ body)) / 2 ^ 8 : Nat) : Int), byteOf ((crc ((putNum seq) ++ body) : Nat) : Int)]) ++ ((putNum seq) ++ body)).length : Nat) : Int)) (b := ([byteOf (((crc ((putNum seq) ++ body)) / 2 ^ 24 : Nat) : Int), byteOf (((crc ((putNum seq) ++ body)) / 2 ^ 16 : Nat) : Int), byteOf (((crc ((putNum seq) ++ body)) / 2 ^ 8 : Nat) : Int), byteOf ((crc ((putNum seq) ++ body) : Nat) : Int)]) ++ ((putNum seq) ++ body)) ?_ ?_ (by first | omega | (simp only [List.length_append, List.length_cons, List.length_nil, List.length_take, List.length_drop] at *; omega))) ?_
                · as_aux_lemma => kernel_rfl
                · as_aux_lemma => kernel_rfl
                · as_aux_lemma => kernel_rfl
                refine ANY1 7 ?_ ?_
                · as_aux_lemma => kernel_rfl
                refine RUNO [(4, .v (.string (bs ((putNum (((([byteOf (((crc ((putNum seq) ++ body)) / 2 ^ 24 : Nat) : Int), byteOf (((crc ((putNum seq) ++ body)) / 2 ^ 16 : Nat) : Int), byteOf (((crc ((putNum seq) ++ body)) / 2 ^ 8 : Nat) : Int), byteOf ((crc ((putNum seq) ++ body) : Nat) : Int)]) ++ ((putNum seq) ++ body)).length : Nat) : Int)) ++ (([byteOf (((crc ((putNum seq) ++ body)) / 2 ^ 24 : Nat) : Int), byteOf (((crc ((putNum seq) ++ body)) / 2 ^ 16 : Nat) : Int), byteOf (((crc ((putNum seq) ++ body)) / 2 ^ 8 : Nat) : Int), byteOf ((crc ((putNum seq) ++ body) : Nat) : Int)]) ++ ((putNum seq) ++ body))))))] [] ?_ ?_
                · as_aux_lemma => kernel_rfl
                refine ANYEND ?_ ?_
                · as_aux_lemma => kernel_rfl
                refine NEXT (RET (FIN (.string (bs ((putNum (((([byteOf (((crc ((putNum seq) ++ body)) / 2 ^ 24 : Nat) : Int), byteOf (((crc ((putNum seq) ++ body)) / 2 ^ 16 : Nat) : Int), byteOf (((crc ((putNum seq) ++ body)) / 2 ^ 8 : Nat) : Int), byteOf ((crc ((putNum seq) ++ body) : Nat) : Int)]) ++ ((putNum seq) ++ body)).length : Nat) : Int)) ++ (([byteOf (((crc ((putNum seq) ++ body)) / 2 ^ 24 : Nat) : Int), byteOf (((crc ((putNum seq) ++ body)) / 2 ^ 16 : Nat) : Int), byteOf (((crc ((putNum seq) ++ body)) / 2 ^ 8 : Nat) : Int), byteOf ((crc ((putNum seq) ++ body) : Nat) : Int)]) ++ ((putNum seq) ++ body))))) ?_ () ?_ [] ?_))
                · as_aux_lemma => kernel_rfl
                · simp_all [RV, frameOf, four_nat]
                · rfl
            · -- operation 5 next
              refine RUNV (.convert 62 9 (.tmp 41)) 42 9 ?_ (Nat.le_of_ble_eq_true rfl) (.string (bs (([byteOf (((crc ((putNum seq) ++ body)) / 2 ^ 24 : Nat) : Int), byteOf (((crc ((putNum seq) ++ body)) / 2 ^ 16 : Nat) : Int), byteOf (((crc ((putNum seq) ++ body)) / 2 ^ 8 : Nat) : Int), byteOf ((crc ((putNum seq) ++ body) : Nat) : Int)]) ++ ((putNum seq) ++ body)))) (runs_bstr (a := a11) (n := (([byteOf (((crc ((putNum seq) ++ body)) / 2 ^ 24 : Nat) : Int), byteOf (((crc ((putNum seq) ++ body)) / 2 ^ 16 : Nat) : Int), byteOf (((crc ((putNum seq) ++ body)) / 2 ^ 8 : Nat) : Int), byteOf ((crc ((putNum seq) ++ body) : Nat) : Int)]) ++ ((putNum seq) ++ body)).length) (c := c12) (xs := ([byteOf (((crc ((putNum seq) ++ body)) / 2 ^ 24 : Nat) : Int), byteOf (((crc ((putNum seq) ++ body)) / 2 ^ 16 : Nat) : Int), byteOf (((crc ((putNum seq) ++ body)) / 2 ^ 8 : Nat) : Int), byteOf ((crc ((putNum seq) ++ body) : Nat) : Int)]) ++ ((putNum seq) ++ body)) (e := 5) ?_ ?_ ?_ ?_ rfl (fun w hw => (Rd.own (hw.own 1 rfl)))) ?_
              · as_aux_lemma => kernel_rfl
              · as_aux_lemma => kernel_rfl
              · as_aux_lemma => kernel_rfl
              · as_aux_lemma => kernel_rfl
              · as_aux_lemma => kernel_rfl
              refine ANY1 2 ?_ ?_
              · as_aux_lemma => kernel_rfl
              refine CALL 48 #[vi (((([byteOf (((crc ((putNum seq) ++ body)) / 2 ^ 24 : Nat) : Int), byteOf (((crc ((putNum seq) ++ body)) / 2 ^ 16 : Nat) : Int), byteOf (((crc ((putNum seq) ++ body)) / 2 ^ 8 : Nat) : Int), byteOf ((crc ((putNum seq) ++ body) : Nat) : Int)]) ++ ((putNum seq) ++ body)).length : Nat) : Int)] (some 39) ?_ [] [] _ rfl (⟨HH, fun p => .slice p.1 ((putNum (((([byteOf (((crc ((putNum seq) ++ body)) / 2 ^ 24 : Nat) : Int), byteOf (((crc ((putNum seq) ++ body)) / 2 ^ 16 : Nat) : Int), byteOf (((crc ((putNum seq) ++ body)) / 2 ^ 8 : Nat) : Int), byteOf ((crc ((putNum seq) ++ body) : Nat) : Int)]) ++ ((putNum seq) ++ body)).length : Nat) : Int)).length) p.2, fun p => [slA 5 byteL (.slice p.1 (putNum (((([byteOf (((crc ((putNum seq) ++ body)) / 2 ^ 24 : Nat) : Int), byteOf (((crc ((putNum seq) ++ body)) / 2 ^ 16 : Nat) : Int), byteOf (((crc ((putNum seq) ++ body)) / 2 ^ 8 : Nat) : Int), byteOf ((crc ((putNum seq) ++ body) : Nat) : Int)]) ++ ((putNum seq) ++ body)).length : Nat) : Int)).length p.2) (putNum (((([byteOf (((crc ((putNum seq) ++ body)) / 2 ^ 24 : Nat) : Int), byteOf (((crc ((putNum seq) ++ body)) / 2 ^ 16 : Nat) : Int), byteOf (((crc ((putNum seq) ++ body)) / 2 ^ 8 : Nat) : Int), byteOf ((crc ((putNum seq) ++ body) : Nat) : Int)]) ++ ((putNum seq) ++ body)).length : Nat) : Int))]⟩) (fun w hw => iPutNum_c w (((([byteOf (((crc ((putNum seq) ++ body)) / 2 ^ 24 : Nat) : Int), byteOf (((crc ((putNum seq) ++ body)) / 2 ^ 16 : Nat) : Int), byteOf (((crc ((putNum seq) ++ body)) / 2 ^ 8 : Nat) : Int), byteOf ((crc ((putNum seq) ++ body) : Nat) : Int)]) ++ ((putNum seq) ++ body)).length : Nat) : Int)) (by rintro _ ⟨⟩; exact Nat.le_of_ble_eq_true rfl) ?_
              · as_aux_lemma => kernel_rfl
              rintro ⟨a35, c36⟩
              have hr37 := putNum_len (((([byteOf (((crc ((putNum seq) ++ body)) / 2 ^ 24 : Nat) : Int), byteOf (((crc ((putNum seq) ++ body)) / 2 ^ 16 : Nat) : Int), byteOf (((crc ((putNum seq) ++ body)) / 2 ^ 8 : Nat) : Int), byteOf ((crc ((putNum seq) ++ body) : Nat) : Int)]) ++ ((putNum seq) ++ body)).length : Nat) : Int)
              refine ANY1 3 ?_ ?_
              · as_aux_lemma => kernel_rfl
              refine RUNV (.convert 62 9 (.tmp 39)) 40 9 ?_ (Nat.le_of_ble_eq_true rfl) (.string (bs (putNum (((([byteOf (((crc ((putNum seq) ++ body)) / 2 ^ 24 : Nat) : Int), byteOf (((crc ((putNum seq) ++ body)) / 2 ^ 16 : Nat) : Int), byteOf (((crc ((putNum seq) ++ body)) / 2 ^ 8 : Nat) : Int), byteOf ((crc ((putNum seq) ++ body) : Nat) : Int)]) ++ ((putNum seq) ++ body)).length : Nat) : Int)))) (runs_bstr (a := a35) (n := (putNum (((([byteOf (((crc ((putNum seq) ++ body)) / 2 ^ 24 : Nat) : Int), byteOf (((crc ((putNum seq) ++ body)) / 2 ^ 16 : Nat) : Int), byteOf (((crc ((putNum seq) ++ body)) / 2 ^ 8 : Nat) : Int), byteOf ((crc ((putNum seq) ++ body) : Nat) : Int)]) ++ ((putNum seq) ++ body)).length : Nat) : Int)).length) (c := c36) (xs := putNum (((([byteOf (((crc ((putNum seq) ++ body)) / 2 ^ 24 : Nat) : Int), byteOf (((crc ((putNum seq) ++ body)) / 2 ^ 16 : Nat) : Int), byteOf (((crc ((putNum seq) ++ body)) / 2 ^ 8 : Nat) : Int), byteOf ((crc ((putNum seq) ++ body) : Nat) : Int)]) ++ ((putNum seq) ++ body)).length : Nat) : Int)) (e := 5) ?_ ?_ ?_ ?_ rfl (fun w hw => (Rd.own (hw.own 2 rfl)))) ?_
              · as_aux_lemma => kernel_rfl
              · as_aux_lemma => kernel_rfl
              · as_aux_lemma => kernel_rfl
              · as_aux_lemma => kernel_rfl
              · as_aux_lemma => kernel_rfl
              refine ANY1 6 ?_ ?_
              · as_aux_lemma => kernel_rfl
              refine RUNV (.binOp .add 9 (.tmp 40) (.tmp 42) 9) 43 9 ?_ (Nat.le_of_ble_eq_true rfl) (.string (bs ((putNum (((([byteOf (((crc ((putNum seq) ++ body)) / 2 ^ 24 : Nat) : Int), byteOf (((crc ((putNum seq) ++ body)) / 2 ^ 16 : Nat) : Int), byteOf (((crc ((putNum seq) ++ body)) / 2 ^ 8 : Nat) : Int), byteOf ((crc ((putNum seq) ++ body) : Nat) : Int)]) ++ ((putNum seq) ++ body)).length : Nat) : Int)) ++ (([byteOf (((crc ((putNum seq) ++ body)) / 2 ^ 24 : Nat) : Int), byteOf (((crc ((putNum seq) ++ body)) / 2 ^ 16 : Nat) : Int), byteOf (((crc ((putNum seq) ++ body)) / 2 ^ 8 : Nat) : Int), byteOf ((crc ((putNum seq) ++ body) : Nat) : Int)]) ++ ((putNum seq) ++ body))))) (runs_scat (a := putNum (((([byteOf (((crc ((putNum seq) ++ body)) / 2 ^ 24 : Nat) : Int), byteOf (((crc ((putNum seq) ++ body)) / 2 ^ 16 : Nat) : Int), byteOf (((crc ((putNum seq) ++ body)) / 2 ^ 8 : Nat) : Int), byteOf ((crc ((putNum seq) ++ body) : Nat) : Int)]) ++ ((putNum seq) ++ body)).length : Nat) : Int)) (b := ([byteOf (((crc ((putNum seq) ++ body)) / 2 ^ 24 : Nat) : Int), byteOf (((crc ((putNum seq) ++ body)) / 2 ^ 16 : Nat) : Int), byteOf (((crc ((putNum seq) ++ body)) / 2 ^ 8 : Nat) : Int), byteOf ((crc ((putNum seq) ++ body) : Nat) : Int)]) ++ ((putNum seq) ++ body)) ?_ ?_ (by first | omega | (simp only [List.length_append, List.length_cons, List.length_nil, List.length_take, List.length_drop] at *; omega))) ?_
              · as_aux_lemma => kernel_rfl
              · as_aux_lemma => kernel_rfl
              · as_aux_lemma => kernel_rfl
              refine ANY1 7 ?_ ?_
              · as_aux_lemma => kernel_rfl
              refine RUNO [(4, .v (.string (bs ((putNum (((([byteOf (((crc ((putNum seq) ++ body)) / 2 ^ 24 : Nat) : Int), byteOf (((crc ((putNum seq) ++ body)) / 2 ^ 16 : Nat) : Int), byteOf (((crc ((putNum seq) ++ body)) / 2 ^ 8 : Nat) : Int), byteOf ((crc ((putNum seq) ++ body) : Nat) : Int)]) ++ ((putNum seq) ++ body)).length : Nat) : Int)) ++ (([byteOf (((crc ((putNum seq) ++ body)) / 2 ^ 24 : Nat) : Int), byteOf (((crc ((putNum seq) ++ body)) / 2 ^ 16 : Nat) : Int), byteOf (((crc ((putNum seq) ++ body)) / 2 ^ 8 : Nat) : Int), byteOf ((crc ((putNum seq) ++ body) : Nat) : Int)]) ++ ((putNum seq) ++ body))))))] [] ?_ ?_
              · as_aux_lemma => kernel_rfl
              refine ANYEND ?_ ?_
              · as_aux_lemma => kernel_rfl
              refine NEXT (RET (FIN (.string (bs ((putNum (((([byteOf (((crc ((putNum seq) ++ body)) / 2 ^ 24 : Nat) : Int), byteOf (((crc ((putNum seq) ++ body)) / 2 ^ 16 : Nat) : Int), byteOf (((crc ((putNum seq) ++ body)) / 2 ^ 8 : Nat) : Int), byteOf ((crc ((putNum seq) ++ body) : Nat) : Int)]) ++ ((putNum seq) ++ body)).length : Nat) : Int)) ++ (([byteOf (((crc ((putNum seq) ++ body)) / 2 ^ 24 : Nat) : Int), byteOf (((crc ((putNum seq) ++ body)) / 2 ^ 16 : Nat) : Int), byteOf (((crc ((putNum seq) ++ body)) / 2 ^ 8 : Nat) : Int), byteOf ((crc ((putNum seq) ++ body) : Nat) : Int)]) ++ ((putNum seq) ++ body))))) ?_ () ?_ [] ?_))
              · as_aux_lemma => kernel_rfl
              · simp_all [RV, frameOf, four_nat]
              · rfl
          · -- operation 5 next
            refine RUNV (.convert 62 9 (.tmp 41)) 42 9 ?_ (Nat.le_of_ble_eq_true rfl) (.string (bs (([byteOf (((crc ((putNum seq) ++ body)) / 2 ^ 24 : Nat) : Int), byteOf (((crc ((putNum seq) ++ body)) / 2 ^ 16 : Nat) : Int), byteOf (((crc ((putNum seq) ++ body)) / 2 ^ 8 : Nat) : Int), byteOf ((crc ((putNum seq) ++ body) : Nat) : Int)]) ++ ((putNum seq) ++ body)))) (runs_bstr (a := a11) (n := (([byteOf (((crc ((putNum seq) ++ body)) / 2 ^ 24 : Nat) : Int), byteOf (((crc ((putNum seq) ++ body)) / 2 ^ 16 : Nat) : Int), byteOf (((crc ((putNum seq) ++ body)) / 2 ^ 8 : Nat) : Int), byteOf ((crc ((putNum seq) ++ body) : Nat) : Int)]) ++ ((putNum seq) ++ body)).length) (c := c12) (xs := ([byteOf (((crc ((putNum seq) ++ body)) / 2 ^ 24 : Nat) : Int), byteOf (((crc ((putNum seq) ++ body)) / 2 ^ 16 : Nat) : Int), byteOf (((crc ((putNum seq) ++ body)) / 2 ^ 8 : Nat) : Int), byteOf ((crc ((putNum seq) ++ body) : Nat) : Int)]) ++ ((putNum seq) ++ body)) (e := 5) ?_ ?_ ?_ ?_ rfl (fun w hw => (Rd.own (hw.own 1 rfl)))) ?_
            · as_aux_lemma => kernel_rfl
            · as_aux_lemma => kernel_rfl
            · as_aux_lemma => kernel_rfl
            · as_aux_lemma => kernel_rfl
            · as_aux_lemma => kernel_rfl
            refine ANY1 1 ?_ ?_
            · as_aux_lemma => kernel_rfl
            refine RUNO [(38, I (((([byteOf (((crc ((putNum seq) ++ body)) / 2 ^ 24 : Nat) : Int), byteOf (((crc ((putNum seq) ++ body)) / 2 ^ 16 : Nat) : Int), byteOf (((crc ((putNum seq) ++ body)) / 2 ^ 8 : Nat) : Int), byteOf ((crc ((putNum seq) ++ body) : Nat) : Int)]) ++ ((putNum seq) ++ body)).length : Nat) : Int)), (42, .v (.string (bs (([byteOf (((crc ((putNum seq) ++ body)) / 2 ^ 24 : Nat) : Int), byteOf (((crc ((putNum seq) ++ body)) / 2 ^ 16 : Nat) : Int), byteOf (((crc ((putNum seq) ++ body)) / 2 ^ 8 : Nat) : Int), byteOf ((crc ((putNum seq) ++ body) : Nat) : Int)]) ++ ((putNum seq) ++ body)))))] [] ?_ ?_
            · as_aux_lemma => kernel_rfl
            refine ANY1 2 ?_ ?_
            · as_aux_lemma => kernel_rfl
            refine CALL 48 #[vi (((([byteOf (((crc ((putNum seq) ++ body)) / 2 ^ 24 : Nat) : Int), byteOf (((crc ((putNum seq) ++ body)) / 2 ^ 16 : Nat) : Int), byteOf (((crc ((putNum seq) ++ body)) / 2 ^ 8 : Nat) : Int), byteOf ((crc ((putNum seq) ++ body) : Nat) : Int)]) ++ ((putNum seq) ++ body)).length : Nat) : Int)] (some 39) ?_ [] [] _ rfl (⟨HH, fun p => .slice p.1 ((putNum (((([byteOf (((crc ((putNum seq) ++ body)) / 2 ^ 24 : Nat) : Int), byteOf (((crc ((putNum seq) ++ body)) / 2 ^ 16 : Nat) : Int), byteOf (((crc ((putNum seq) ++ body)) / 2 ^ 8 : Nat) : Int), byteOf ((crc ((putNum seq) ++ body) : Nat) : Int)]) ++ ((putNum seq) ++ body)).length : Nat) : Int)).length) p.2, fun p => [slA 5 byteL (.slice p.1 (putNum (((([byteOf (((crc ((putNum seq) ++ body)) / 2 ^ 24 : Nat) : Int), byteOf (((crc ((putNum seq) ++ body)) / 2 ^ 16 : Nat) : Int), byteOf (((crc ((putNum seq) ++ body)) / 2 ^ 8 : Nat) : Int), byteOf ((crc ((putNum seq) ++ body) : Nat) : Int)]) ++ ((putNum seq) ++ body)).length : Nat) : Int)).length p.2) (putNum (((([byteOf (((crc ((putNum seq) ++ body)) / 2 ^ 24 : Nat) : Int), byteOf (((crc ((putNum seq) ++ body)) / 2 ^ 16 : Nat) : Int), byteOf (((crc ((putNum seq) ++ body)) / 2 ^ 8 : Nat) : Int), byteOf ((crc ((putNum seq) ++ body) : Nat) : Int)]) ++ ((putNum seq) ++ body)).length : Nat) : Int))]⟩) (fun w hw => iPutNum_c w (((([byteOf (((crc ((putNum seq) ++ body)) / 2 ^ 24 : Nat) : Int), byteOf (((crc ((putNum seq) ++ body)) / 2 ^ 16 : Nat) : Int), byteOf (((crc ((putNum seq) ++ body)) / 2 ^ 8 : Nat) : Int), byteOf ((crc ((putNum seq) ++ body) : Nat) : Int)]) ++ ((putNum seq) ++ body)).length : Nat) : Int)) (by rintro _ ⟨⟩; exact Nat.le_of_ble_eq_true rfl) ?_
            · as_aux_lemma => kernel_rfl
            rintro ⟨a38, c39⟩
            have hr40 := putNum_len (((([byteOf (((crc ((putNum seq) ++ body)) / 2 ^ 24 : Nat) : Int), byteOf (((crc ((putNum seq) ++ body)) / 2 ^ 16 : Nat) : Int), byteOf (((crc ((putNum seq) ++ body)) / 2 ^ 8 : Nat) : Int), byteOf ((crc ((putNum seq) ++ body) : Nat) : Int)]) ++ ((putNum seq) ++ body)).length : Nat) : Int)
            refine ANY1 3 ?_ ?_
            · as_aux_lemma => kernel_rfl
            refine RUNV (.convert 62 9 (.tmp 39)) 40 9 ?_ (Nat.le_of_ble_eq_true rfl) (.string (bs (putNum (((([byteOf (((crc ((putNum seq) ++ body)) / 2 ^ 24 : Nat) : Int), byteOf (((crc ((putNum seq) ++ body)) / 2 ^ 16 : Nat) : Int), byteOf (((crc ((putNum seq) ++ body)) / 2 ^ 8 : Nat) : Int), byteOf ((crc ((putNum seq) ++ body) : Nat) : Int)]) ++ ((putNum seq) ++ body)).length : Nat) : Int)))) (runs_bstr (a := a38) (n := (putNum (((([byteOf (((crc ((putNum seq) ++ body)) / 2 ^ 24 : Nat) : Int), byteOf (((crc ((putNum seq) ++ body)) / 2 ^ 16 : Nat) : Int), byteOf (((crc ((putNum seq) ++ body)) / 2 ^ 8 : Nat) : Int), byteOf ((crc ((putNum seq) ++ body) : Nat) : Int)]) ++ ((putNum seq) ++ body)).length : Nat) : Int)).length) (c := c39) (xs := putNum (((([byteOf (((crc ((putNum seq) ++ body)) / 2 ^ 24 : Nat) : Int), byteOf (((crc ((putNum seq) ++ body)) / 2 ^ 16 : Nat) : Int), byteOf (((crc ((putNum seq) ++ body)) / 2 ^ 8 : Nat) : Int), byteOf ((crc ((putNum seq) ++ body) : Nat) : Int)]) ++ ((putNum seq) ++ body)).length : Nat) : Int)) (e := 5) ?_ ?_ ?_ ?_ rfl (fun w hw => (Rd.own (hw.own 2 rfl)))) ?_
            · as_aux_lemma => kernel_rfl
            · as_aux_lemma => kernel_rfl
            · as_aux_lemma => kernel_rfl
            · as_aux_lemma => kernel_rfl
            · as_aux_lemma => kernel_rfl
            refine ANY1 6 ?_ ?_
            · as_aux_lemma => kernel_rfl
            refine RUNV (.binOp .add 9 (.tmp 40) (.tmp 42) 9) 43 9 ?_ (Nat.le_of_ble_eq_true rfl) (.string (bs ((putNum (((([byteOf (((crc ((putNum seq) ++ body)) / 2 ^ 24 : Nat) : Int), byteOf (((crc ((putNum seq) ++ body)) / 2 ^ 16 : Nat) : Int), byteOf (((crc ((putNum seq) ++ body)) / 2 ^ 8 : Nat) : Int), byteOf ((crc ((putNum seq) ++ body) : Nat) : Int)]) ++ ((putNum seq) ++ body)).length : Nat) : Int)) ++ (([byteOf (((crc ((putNum seq) ++ body)) / 2 ^ 24 : Nat) : Int), byteOf (((crc ((putNum seq) ++ body)) / 2 ^ 16 : Nat) : Int), byteOf (((crc ((putNum seq) ++ body)) / 2 ^ 8 : Nat) : Int), byteOf ((crc ((putNum seq) ++ body) : Nat) : Int)]) ++ ((putNum seq) ++ body))))) (runs_scat (a := putNum (((([byteOf (((crc ((putNum seq) ++ body)) / 2 ^ 24 : Nat) : Int), byteOf (((crc ((putNum seq) ++ body)) / 2 ^ 16 : Nat) : Int), byteOf (((crc ((putNum seq) ++ body)) / 2 ^ 8 : Nat) : Int), byteOf ((crc ((putNum seq) ++ body) : Nat) : Int)]) ++ ((putNum seq) ++ body)).length : Nat) : Int)) (b := ([byteOf (((crc ((putNum seq) ++ body)) / 2 ^ 24 : Nat) : Int), byteOf (((crc ((putNum seq) ++ body)) / 2 ^ 16 : Nat) : Int), byteOf (((crc ((putNum seq) ++ body)) / 2 ^ 8 : Nat) : Int), byteOf ((crc ((putNum seq) ++ body) : Nat) : Int)]) ++ ((putNum seq) ++ body)) ?_ ?_ (by first | omega | (simp only [List.length_append, List.length_cons, List.length_nil, List.length_take, List.length_drop] at *; omega))) ?_
            · as_aux_lemma => kernel_rfl
            · as_aux_lemma => kernel_rfl
            · as_aux_lemma => kernel_rfl
            refine ANY1 7 ?_ ?_
            · as_aux_lemma => kernel_rfl
            refine RUNO [(4, .v (.string (bs ((putNum (((([byteOf (((crc ((putNum seq) ++ body)) / 2 ^ 24 : Nat) : Int), byteOf (((crc ((putNum seq) ++ body)) / 2 ^ 16 : Nat) : Int), byteOf (((crc ((putNum seq) ++ body)) / 2 ^ 8 : Nat) : Int), byteOf ((crc ((putNum seq) ++ body) : Nat) : Int)]) ++ ((putNum seq) ++ body)).length : Nat) : Int)) ++ (([byteOf (((crc ((putNum seq) ++ body)) / 2 ^ 24 : Nat) : Int), byteOf (((crc ((putNum seq) ++ body)) / 2 ^ 16 : Nat) : Int), byteOf (((crc ((putNum seq) ++ body)) / 2 ^ 8 : Nat) : Int), byteOf ((crc ((putNum seq) ++ body) : Nat) : Int)]) ++ ((putNum seq) ++ body))))))] [] ?_ ?_
            · as_aux_lemma => kernel_rfl
            refine ANYEND ?_ ?_
            · as_aux_lemma => kernel_rfl
            refine NEXT (RET (FIN (.string (bs ((putNum (((([byteOf (((crc ((putNum seq) ++ body)) / 2 ^ 24 : Nat) : Int), byteOf (((crc ((putNum seq) ++ body)) / 2 ^ 16 : Nat) : Int), byteOf (((crc ((putNum seq) ++ body)) / 2 ^ 8 : Nat) : Int), byteOf ((crc ((putNum seq) ++ body) : Nat) : Int)]) ++ ((putNum seq) ++ body)).length : Nat) : Int)) ++ (([byteOf (((crc ((putNum seq) ++ body)) / 2 ^ 24 : Nat) : Int), byteOf (((crc ((putNum seq) ++ body)) / 2 ^ 16 : Nat) : Int), byteOf (((crc ((putNum seq) ++ body)) / 2 ^ 8 : Nat) : Int), byteOf ((crc ((putNum seq) ++ body) : Nat) : Int)]) ++ ((putNum seq) ++ body))))) ?_ () ?_ [] ?_))
            · as_aux_lemma => kernel_rfl
            · simp_all [RV, frameOf, four_nat]
            · rfl
        · -- operation 5 next
          refine RUNV (.convert 62 9 (.tmp 41)) 42 9 ?_ (Nat.le_of_ble_eq_true rfl) (.string (bs (([byteOf (((crc ((putNum seq) ++ body)) / 2 ^ 24 : Nat) : Int), byteOf (((crc ((putNum seq) ++ body)) / 2 ^ 16 : Nat) : Int), byteOf (((crc ((putNum seq) ++ body)) / 2 ^ 8 : Nat) : Int), byteOf ((crc ((putNum seq) ++ body) : Nat) : Int)]) ++ ((putNum seq) ++ body)))) (runs_bstr (a := a11) (n := (([byteOf (((crc ((putNum seq) ++ body)) / 2 ^ 24 : Nat) : Int), byteOf (((crc ((putNum seq) ++ body)) / 2 ^ 16 : Nat) : Int), byteOf (((crc ((putNum seq) ++ body)) / 2 ^ 8 : Nat) : Int), byteOf ((crc ((putNum seq) ++ body) : Nat) : Int)]) ++ ((putNum seq) ++ body)).length) (c := c12) (xs := ([byteOf (((crc ((putNum seq) ++ body)) / 2 ^ 24 : Nat) : Int), byteOf (((crc ((putNum seq) ++ body)) / 2 ^ 16 : Nat) : Int), byteOf (((crc ((putNum seq) ++ body)) / 2 ^ 8 : Nat) : Int), byteOf ((crc ((putNum seq) ++ body) : Nat) : Int)]) ++ ((putNum seq) ++ body)) (e := 5) ?_ ?_ ?_ ?_ rfl (fun w hw => (Rd.own (hw.own 1 rfl)))) ?_
          · as_aux_lemma => kernel_rfl
          · as_aux_lemma => kernel_rfl
          · as_aux_lemma => kernel_rfl
          · as_aux_lemma => kernel_rfl
          · as_aux_lemma => kernel_rfl
          refine ANY1 0 ?_ ?_
          · as_aux_lemma => kernel_rfl
          refine RUNO [(37, .v (.slice a11 ((([byteOf (((crc ((putNum seq) ++ body)) / 2 ^ 24 : Nat) : Int), byteOf (((crc ((putNum seq) ++ body)) / 2 ^ 16 : Nat) : Int), byteOf (((crc ((putNum seq) ++ body)) / 2 ^ 8 : Nat) : Int), byteOf ((crc ((putNum seq) ++ body) : Nat) : Int)]) ++ ((putNum seq) ++ body)).length) c12)), (42, .v (.string (bs (([byteOf (((crc ((putNum seq) ++ body)) / 2 ^ 24 : Nat) : Int), byteOf (((crc ((putNum seq) ++ body)) / 2 ^ 16 : Nat) : Int), byteOf (((crc ((putNum seq) ++ body)) / 2 ^ 8 : Nat) : Int), byteOf ((crc ((putNum seq) ++ body) : Nat) : Int)]) ++ ((putNum seq) ++ body)))))] [] ?_ ?_
          · as_aux_lemma => kernel_rfl
          refine ANY1 1 ?_ ?_
          · as_aux_lemma => kernel_rfl
          refine RUNO [(38, I (((([byteOf (((crc ((putNum seq) ++ body)) / 2 ^ 24 : Nat) : Int), byteOf (((crc ((putNum seq) ++ body)) / 2 ^ 16 : Nat) : Int), byteOf (((crc ((putNum seq) ++ body)) / 2 ^ 8 : Nat) : Int), byteOf ((crc ((putNum seq) ++ body) : Nat) : Int)]) ++ ((putNum seq) ++ body)).length : Nat) : Int)), (42, .v (.string (bs (([byteOf (((crc ((putNum seq) ++ body)) / 2 ^ 24 : Nat) : Int), byteOf (((crc ((putNum seq) ++ body)) / 2 ^ 16 : Nat) : Int), byteOf (((crc ((putNum seq) ++ body)) / 2 ^ 8 : Nat) : Int), byteOf ((crc ((putNum seq) ++ body) : Nat) : Int)]) ++ ((putNum seq) ++ body)))))] [] ?_ ?_
          · as_aux_lemma => kernel_rfl
          refine ANY1 2 ?_ ?_
          · as_aux_lemma => kernel_rfl
          refine CALL 48 #[vi (((([byteOf (((crc ((putNum seq) ++ body)) / 2 ^ 24 : Nat) : Int), byteOf (((crc ((putNum seq) ++ body)) / 2 ^ 16 : Nat) : Int), byteOf (((crc ((putNum seq) ++ body)) / 2 ^ 8 : Nat) : Int), byteOf ((crc ((putNum seq) ++ body) : Nat) : Int)]) ++ ((putNum seq) ++ body)).length : Nat) : Int)] (some 39) ?_ [] [] _ rfl (⟨HH, fun p => .slice p.1 ((putNum (((([byteOf (((crc ((putNum seq) ++ body)) / 2 ^ 24 : Nat) : Int), byteOf (((crc ((putNum seq) ++ body)) / 2 ^ 16 : Nat) : Int), byteOf (((crc ((putNum seq) ++ body)) / 2 ^ 8 : Nat) : Int), byteOf ((crc ((putNum seq) ++ body) : Nat) : Int)]) ++ ((putNum seq) ++ body)).length : Nat) : Int)).length) p.2, fun p => [slA 5 byteL (.slice p.1 (putNum (((([byteOf (((crc ((putNum seq) ++ body)) / 2 ^ 24 : Nat) : Int), byteOf (((crc ((putNum seq) ++ body)) / 2 ^ 16 : Nat) : Int), byteOf (((crc ((putNum seq) ++ body)) / 2 ^ 8 : Nat) : Int), byteOf ((crc ((putNum seq) ++ body) : Nat) : Int)]) ++ ((putNum seq) ++ body)).length : Nat) : Int)).length p.2) (putNum (((([byteOf (((crc ((putNum seq) ++ body)) / 2 ^ 24 : Nat) : Int), byteOf (((crc ((putNum seq) ++ body)) / 2 ^ 16 : Nat) : Int), byteOf (((crc ((putNum seq) ++ body)) / 2 ^ 8 : Nat) : Int), byteOf ((crc ((putNum seq) ++ body) : Nat) : Int)]) ++ ((putNum seq) ++ body)).length : Nat) : Int))]⟩) (fun w hw => iPutNum_c w (((([byteOf (((crc ((putNum seq) ++ body)) / 2 ^ 24 : Nat) : Int), byteOf (((crc ((putNum seq) ++ body)) / 2 ^ 16 : Nat) : Int), byteOf (((crc ((putNum seq) ++ body)) / 2 ^ 8 : Nat) : Int), byteOf ((crc ((putNum seq) ++ body) : Nat) : Int)]) ++ ((putNum seq) ++ body)).length : Nat) : Int)) (by rintro _ ⟨⟩; exact Nat.le_of_ble_eq_true rfl) ?_
          · as_aux_lemma => kernel_rfl
          rintro ⟨a41, c42⟩
          have hr43 := putNum_len (((([byteOf (((crc ((putNum seq) ++ body)) / 2 ^ 24 : Nat) : Int), byteOf (((crc ((putNum seq) ++ body)) / 2 ^ 16 : Nat) : Int), byteOf (((crc ((putNum seq) ++ body)) / 2 ^ 8 : Nat) : Int), byteOf ((crc ((putNum seq) ++ body) : Nat) : Int)]) ++ ((putNum seq) ++ body)).length : Nat) : Int)
          refine ANY1 3 ?_ ?_
          · as_aux_lemma => kernel_rfl
          refine RUNV (.convert 62 9 (.tmp 39)) 40 9 ?_ (Nat.le_of_ble_eq_true rfl) (.string (bs (putNum (((([byteOf (((crc ((putNum seq) ++ body)) / 2 ^ 24 : Nat) : Int), byteOf (((crc ((putNum seq) ++ body)) / 2 ^ 16 : Nat) : Int), byteOf (((crc ((putNum seq) ++ body)) / 2 ^ 8 : Nat) : Int), byteOf ((crc ((putNum seq) ++ body) : Nat) : Int)]) ++ ((putNum seq) ++ body)).length : Nat) : Int)))) (runs_bstr (a := a41) (n := (putNum (((([byteOf (((crc ((putNum seq) ++ body)) / 2 ^ 24 : Nat) : Int), byteOf (((crc ((putNum seq) ++ body)) / 2 ^ 16 : Nat) : Int), byteOf (((crc ((putNum seq) ++ body)) / 2 ^ 8 : Nat) : Int), byteOf ((crc ((putNum seq) ++ body) : Nat) : Int)]) ++ ((putNum seq) ++ body)).length : Nat) : Int)).length) (c := c42) (xs := putNum (((([byteOf (((crc ((putNum seq) ++ body)) / 2 ^ 24 : Nat) : Int), byteOf (((crc ((putNum seq) ++ body)) / 2 ^ 16 : Nat) : Int), byteOf (((crc ((putNum seq) ++ body)) / 2 ^ 8 : Nat) : Int), byteOf ((crc ((putNum seq) ++ body) : Nat) : Int)]) ++ ((putNum seq) ++ body)).length : Nat) : Int)) (e := 5) ?_ ?_ ?_ ?_ rfl (fun w hw => (Rd.own (hw.own 2 rfl)))) ?_
          · as_aux_lemma => kernel_rfl
          · as_aux_lemma => kernel_rfl
          · as_aux_lemma => kernel_rfl
          · as_aux_lemma => kernel_rfl
          · as_aux_lemma => kernel_rfl
          refine ANY1 6 ?_ ?_
          · as_aux_lemma => kernel_rfl
          refine RUNV (.binOp .add 9 (.tmp 40) (.tmp 42) 9) 43 9 ?_ (Nat.le_of_ble_eq_true rfl) (.string (bs ((putNum (((([byteOf (((crc ((putNum seq) ++ body)) / 2 ^ 24 : Nat) : Int), byteOf (((crc ((putNum seq) ++ body)) / 2 ^ 16 : Nat) : Int), byteOf (((crc ((putNum seq) ++ body)) / 2 ^ 8 : Nat) : Int), byteOf ((crc ((putNum seq) ++ body) : Nat) : Int)]) ++ ((putNum seq) ++ body)).length : Nat) : Int)) ++ (([byteOf (((crc ((putNum seq) ++ body)) / 2 ^ 24 : Nat) : Int), byteOf (((crc ((putNum seq) ++ body)) / 2 ^ 16 : Nat) : Int), byteOf (((crc ((putNum seq) ++ body)) / 2 ^ 8 : Nat) : Int), byteOf ((crc ((putNum seq) ++ body) : Nat) : Int)]) ++ ((putNum seq) ++ body))))) (runs_scat (a := putNum (((([byteOf (((crc ((putNum seq) ++ body)) / 2 ^ 24 : Nat) : Int), byteOf (((crc ((putNum seq) ++ body)) / 2 ^ 16 : Nat) : Int), byteOf (((crc ((putNum seq) ++ body)) / 2 ^ 8 : Nat) : Int), byteOf ((crc ((putNum seq) ++ body) : Nat) : Int)]) ++ ((putNum seq) ++ body)).length : Nat) : Int)) (b := ([byteOf (((crc ((putNum seq) ++ body)) / 2 ^ 24 : Nat) : Int), byteOf (((crc ((putNum seq) ++ body)) / 2 ^ 16 : Nat) : Int), byteOf (((crc ((putNum seq) ++ body)) / 2 ^ 8 : Nat) : Int), byteOf ((crc ((putNum seq) ++ body) : Nat) : Int)]) ++ ((putNum seq) ++ body)) ?_ ?_ (by first | omega | (simp only [List.length_append, List.length_cons, List.length_nil, List.length_take, List.length_drop] at *; omega))) ?_
          · as_aux_lemma => kernel_rfl
          · as_aux_lemma => kernel_rfl
          · as_aux_lemma => kernel_rfl
          refine ANY1 7 ?_ ?_
          · as_aux_lemma => kernel_rfl
          refine RUNO [(4, .v (.string (bs ((putNum (((([byteOf (((crc ((putNum seq) ++ body)) / 2 ^ 24 : Nat) : Int), byteOf (((crc ((putNum seq) ++ body)) / 2 ^ 16 : Nat) : Int), byteOf (((crc ((putNum seq) ++ body)) / 2 ^ 8 : Nat) : Int), byteOf ((crc ((putNum seq) ++ body) : Nat) : Int)]) ++ ((putNum seq) ++ body)).length : Nat) : Int)) ++ (([byteOf (((crc ((putNum seq) ++ body)) / 2 ^ 24 : Nat) : Int), byteOf (((crc ((putNum seq) ++ body)) / 2 ^ 16 : Nat) : Int), byteOf (((crc ((putNum seq) ++ body)) / 2 ^ 8 : Nat) : Int), byteOf ((crc ((putNum seq) ++ body) : Nat) : Int)]) ++ ((putNum seq) ++ body))))))] [] ?_ ?_
          · as_aux_lemma => kernel_rfl
          refine ANYEND ?_ ?_
          · as_aux_lemma => kernel_rfl
          refine NEXT (RET (FIN (.string (bs ((putNum (((([byteOf (((crc ((putNum seq) ++ body)) / 2 ^ 24 : Nat) : Int), byteOf (((crc ((putNum seq) ++ body)) / 2 ^ 16 : Nat) : Int), byteOf (((crc ((putNum seq) ++ body)) / 2 ^ 8 : Nat) : Int), byteOf ((crc ((putNum seq) ++ body) : Nat) : Int)]) ++ ((putNum seq) ++ body)).length : Nat) : Int)) ++ (([byteOf (((crc ((putNum seq) ++ body)) / 2 ^ 24 : Nat) : Int), byteOf (((crc ((putNum seq) ++ body)) / 2 ^ 16 : Nat) : Int), byteOf (((crc ((putNum seq) ++ body)) / 2 ^ 8 : Nat) : Int), byteOf ((crc ((putNum seq) ++ body) : Nat) : Int)]) ++ ((putNum seq) ++ body))))) ?_ () ?_ [] ?_))
          · as_aux_lemma => kernel_rfl
          · simp_all [RV, frameOf, four_nat]
          · rfl

theorem sReqBytes_c (W : World) (q : Req) : Spec Try.prog W [] 40 #[.agg #[vi q.kind, vi q.id, vi q.cabin, vi q.from', vi q.size, vi q.tier]] (RV (.string (bs (reqBytes q)))) := by
  refine ENTER0 (N := 47) (vs := [.agg #[vi q.kind, vi q.id, vi q.cabin, vi q.from', vi q.size, vi q.tier]]) Try.func40 rfl rfl (Nat.le_of_ble_eq_true rfl) ?_
  refine SEQ (REGION [0, 1] rfl (RUN 2 [] [(1, .p 0 0)] [(41, [vi q.kind, vi q.id, vi q.cabin, vi q.from', vi q.size, vi q.tier])] ?_ rfl ?_))
  · as_aux_lemma => kernel_rfl
  refine ENDOPS (NEXT (SEQ (SEQ (REGION [0, 1, 2] rfl (RUN0 1 [1, 2] [(1, .p 0 0), (3, .v (.agg #[vi q.kind, vi q.id, vi q.cabin, vi q.from', vi q.size, vi q.tier]))] ?_ rfl ?_)))))
  · as_aux_lemma => kernel_rfl
  refine OPC (CALL 33 #[.agg #[vi q.kind, vi q.id, vi q.cabin, vi q.from', vi q.size, vi q.tier]] (some 4) ?_ [] [] _ rfl (RV (.bool (reqOk q))) (fun w hw => sReqOk_c w q) (by rintro _ ⟨⟩; exact Nat.le_of_ble_eq_true rfl) ?_)
  · as_aux_lemma => kernel_rfl
  rintro ⟨⟩
  refine RUN0 1 [] [(1, .p 0 0), (5, B (!(reqOk q)))] ?_ rfl ?_
  · as_aux_lemma => kernel_rfl
  refine ENDOPS (NEXT (IF (!(reqOk q)) ?_ (fun bh1 => ?_) (fun bh1 => ?_)))
  · as_aux_lemma => kernel_rfl
  · -- !(reqOk q) = true
    have h1 := bh1
    have h1 := notT h1
    refine SEQ (REGION [0] rfl (RUN0 1 [] [(2, .v (.string (bs ([]))))] ?_ rfl ?_))
    · as_aux_lemma => kernel_rfl
    refine ENDOPS (NEXT (RET (PASS trivial (FIN (.string (bs ([]))) ?_ () ?_ [] ?_))))
    · as_aux_lemma => kernel_rfl
    · simp_all [RV, reqBytes]
    · rfl
  · -- !(reqOk q) = false
    have h1 := bh1
    have h1 := notF h1
    refine SKIP (NEXT (SEQ (SEQ (REGION [0, 1] rfl (RUN0 2 [] [(1, .p 0 0), (7, I q.kind)] ?_ rfl ?_)))))
    · as_aux_lemma => kernel_rfl
    refine ENDOPS (NEXT (BLOCK (SEQ (REGION [0, 1] rfl (RUN0 2 [] [(1, .p 0 0), (7, I q.kind), (8, B (q.kind == 1))] ?_ rfl ?_)))))
    · as_aux_lemma => kernel_rfl
    refine ENDOPS (NEXT (IF (q.kind == 1) ?_ (fun bh2 => ?_) (fun bh2 => ?_)))
    · as_aux_lemma => kernel_rfl
    · -- q.kind == 1 = true
      have h2 := bh2
      have h2 := eq_of_beq h2
      refine SEQ (REGION [0, 1, 2, 3, 4, 5, 6, 7, 8, 9, 10, 11, 12, 13, 14, 15] rfl (RUN0 13 [13, 14, 15] [(11, I q.kind), (13, I q.id), (15, I q.cabin), (18, I (wr (q.from' + 1))), (20, I q.size), (22, I q.tier)] ?_ rfl ?_))
      · as_aux_lemma => kernel_rfl
      refine OPC (BUILDS 24 6 #[(0, .tmp 11), (1, .tmp 13), (2, .tmp 15), (3, .tmp 18), (4, .tmp 20), (5, .tmp 22)] 23 24 ?_ (Nat.le_of_ble_eq_true rfl) 3 [vi q.kind, vi q.id, vi q.cabin, vi (wr (q.from' + 1)), vi q.size, vi q.tier] ?_ intL [q.kind, q.id, q.cabin, wr (q.from' + 1), q.size, q.tier] rfl (by simp only [maxLen]; omega) [] [] _ rfl (flatRep rfl) (fun a3 ha4 => ?_))
      · as_aux_lemma => kernel_rfl
      · as_aux_lemma => kernel_rfl
      refine OPC (CALL 44 #[.slice a3 6 6] (some 24) ?_ [] [] _ rfl (RV (.string (bs (putNums ([q.kind, q.id, q.cabin, wr (q.from' + 1), q.size, q.tier]))))) (fun w hw => sNums_c w ([q.kind, q.id, q.cabin, wr (q.from' + 1), q.size, q.tier]) a3 6 (Rd.own (hw.own 0 rfl)) (by simp only [List.length_cons, List.length_append, List.length_nil]; omega)) (by rintro _ ⟨⟩; exact Nat.le_of_ble_eq_true rfl) ?_)
      · as_aux_lemma => kernel_rfl
      rintro ⟨⟩
      refine RUN0 1 [] [(2, .v (.string (bs (putNums ([q.kind, q.id, q.cabin, wr (q.from' + 1), q.size, q.tier])))))] ?_ rfl ?_
      · as_aux_lemma => kernel_rfl
      refine ENDOPS (NEXT (RET (OUTR (PASS trivial (FIN (.string (bs (putNums ([q.kind, q.id, q.cabin, wr (q.from' + 1), q.size, q.tier])))) ?_ () ?_ [] ?_)))))
      · as_aux_lemma => kernel_rfl
      · simp_all [RV, reqBytes]
      · rfl
    · -- q.kind == 1 = false
      have h2 := bh2
      have h2 := ne_of_beq_false h2
      refine SEQ (REGION [0, 1] rfl (RUN0 2 [] [(1, .p 0 0), (7, I q.kind), (25, B (q.kind == 3))] ?_ rfl ?_))
      · as_aux_lemma => kernel_rfl
      refine ENDOPS (NEXT (IF (q.kind == 3) ?_ (fun bh5 => ?_) (fun bh5 => ?_)))
      · as_aux_lemma => kernel_rfl
      · -- q.kind == 3 = true
        have h5 := bh5
        have h5 := eq_of_beq h5
        refine SEQ (REGION [0, 1, 2, 3, 4, 5, 6, 7, 8] rfl (RUN0 6 [6, 7, 8] [(28, I q.kind), (30, I q.cabin), (32, I q.size)] ?_ rfl ?_))
        · as_aux_lemma => kernel_rfl
        refine OPC (BUILDS 24 3 #[(0, .tmp 28), (1, .tmp 30), (2, .tmp 32)] 33 24 ?_ (Nat.le_of_ble_eq_true rfl) 3 [vi q.kind, vi q.cabin, vi q.size] ?_ intL [q.kind, q.cabin, q.size] rfl (by simp only [maxLen]; omega) [] [] _ rfl (flatRep rfl) (fun a6 ha7 => ?_))
        · as_aux_lemma => kernel_rfl
        · as_aux_lemma => kernel_rfl
        refine OPC (CALL 44 #[.slice a6 3 3] (some 34) ?_ [] [] _ rfl (RV (.string (bs (putNums ([q.kind, q.cabin, q.size]))))) (fun w hw => sNums_c w ([q.kind, q.cabin, q.size]) a6 3 (Rd.own (hw.own 0 rfl)) (by simp only [List.length_cons, List.length_append, List.length_nil]; omega)) (by rintro _ ⟨⟩; exact Nat.le_of_ble_eq_true rfl) ?_)
        · as_aux_lemma => kernel_rfl
        rintro ⟨⟩
        refine RUN0 1 [] [(2, .v (.string (bs (putNums ([q.kind, q.cabin, q.size])))))] ?_ rfl ?_
        · as_aux_lemma => kernel_rfl
        refine ENDOPS (NEXT (RET (OUTR (PASS trivial (FIN (.string (bs (putNums ([q.kind, q.cabin, q.size])))) ?_ () ?_ [] ?_)))))
        · as_aux_lemma => kernel_rfl
        · simp_all [RV, reqBytes]
        · rfl
      · -- q.kind == 3 = false
        have h5 := bh5
        have h5 := ne_of_beq_false h5
        refine SEQ (REGION [0, 1] rfl (RUN0 2 [] [(1, .p 0 0), (35, B (q.kind == 6))] ?_ rfl ?_))
        · as_aux_lemma => kernel_rfl
        refine ENDOPS (NEXT (IF (q.kind == 6) ?_ (fun bh8 => ?_) (fun bh8 => ?_)))
        · as_aux_lemma => kernel_rfl
        · -- q.kind == 6 = true
          have h8 := bh8
          have h8 := eq_of_beq h8
          refine SEQ (REGION [0, 1, 2, 3, 4] rfl (RUN0 2 [2, 3, 4] [(38, I q.kind)] ?_ rfl ?_))
          · as_aux_lemma => kernel_rfl
          refine OPC (BUILDS 24 1 #[(0, .tmp 38)] 39 24 ?_ (Nat.le_of_ble_eq_true rfl) 3 [vi q.kind] ?_ intL [q.kind] rfl (by simp only [maxLen]; omega) [] [] _ rfl (flatRep rfl) (fun a9 ha10 => ?_))
          · as_aux_lemma => kernel_rfl
          · as_aux_lemma => kernel_rfl
          refine OPC (CALL 44 #[.slice a9 1 1] (some 40) ?_ [] [] _ rfl (RV (.string (bs (putNums ([q.kind]))))) (fun w hw => sNums_c w ([q.kind]) a9 1 (Rd.own (hw.own 0 rfl)) (by simp only [List.length_cons, List.length_append, List.length_nil]; omega)) (by rintro _ ⟨⟩; exact Nat.le_of_ble_eq_true rfl) ?_)
          · as_aux_lemma => kernel_rfl
          rintro ⟨⟩
          refine RUN0 1 [] [(2, .v (.string (bs (putNums ([q.kind])))))] ?_ rfl ?_
          · as_aux_lemma => kernel_rfl
          refine ENDOPS (NEXT (RET (OUTR (PASS trivial (FIN (.string (bs (putNums ([q.kind])))) ?_ () ?_ [] ?_)))))
          · as_aux_lemma => kernel_rfl
          · simp_all [RV, reqBytes]
          · rfl
        · -- q.kind == 6 = false
          have h8 := bh8
          have h8 := ne_of_beq_false h8
          refine SKIP (OUTN (NEXT (SEQ (REGION [0, 1, 2, 3, 4, 5, 6] rfl (RUN0 4 [4, 5, 6] [(42, I q.kind), (44, I q.id)] ?_ rfl ?_)))))
          · as_aux_lemma => kernel_rfl
          refine OPC (BUILDS 24 2 #[(0, .tmp 42), (1, .tmp 44)] 45 24 ?_ (Nat.le_of_ble_eq_true rfl) 3 [vi q.kind, vi q.id] ?_ intL [q.kind, q.id] rfl (by simp only [maxLen]; omega) [] [] _ rfl (flatRep rfl) (fun a11 ha12 => ?_))
          · as_aux_lemma => kernel_rfl
          · as_aux_lemma => kernel_rfl
          refine OPC (CALL 44 #[.slice a11 2 2] (some 46) ?_ [] [] _ rfl (RV (.string (bs (putNums ([q.kind, q.id]))))) (fun w hw => sNums_c w ([q.kind, q.id]) a11 2 (Rd.own (hw.own 0 rfl)) (by simp only [List.length_cons, List.length_append, List.length_nil]; omega)) (by rintro _ ⟨⟩; exact Nat.le_of_ble_eq_true rfl) ?_)
          · as_aux_lemma => kernel_rfl
          rintro ⟨⟩
          refine RUN0 1 [] [(2, .v (.string (bs (putNums ([q.kind, q.id])))))] ?_ rfl ?_
          · as_aux_lemma => kernel_rfl
          refine ENDOPS (NEXT (RET (FIN (.string (bs (putNums ([q.kind, q.id])))) ?_ () ?_ [] ?_)))
          · as_aux_lemma => kernel_rfl
          · simp_all [RV, reqBytes]
          · rfl

theorem iReqBytes_c (W : World) (q : Req) : Spec Try.prog W [] 43 #[.agg #[vi q.kind, vi q.id, vi q.cabin, vi q.from', vi q.size, vi q.tier]] (RV (.string (bs (reqBytes q)))) := by
  refine ENTER0 (N := 46) (vs := [.agg #[vi q.kind, vi q.id, vi q.cabin, vi q.from', vi q.size, vi q.tier]]) Try.func43 rfl rfl (Nat.le_of_ble_eq_true rfl) ?_
  refine SEQ (REGION [0, 1] rfl (RUN 2 [] [(1, .p 0 0)] [(41, [vi q.kind, vi q.id, vi q.cabin, vi q.from', vi q.size, vi q.tier])] ?_ rfl ?_))
  · as_aux_lemma => kernel_rfl
  refine ENDOPS (NEXT (SEQ (SEQ (REGION [0, 1, 2] rfl (RUN0 1 [1, 2] [(1, .p 0 0), (4, .v (.agg #[vi q.kind, vi q.id, vi q.cabin, vi q.from', vi q.size, vi q.tier]))] ?_ rfl ?_)))))
  · as_aux_lemma => kernel_rfl
  refine OPC (CALL 35 #[.agg #[vi q.kind, vi q.id, vi q.cabin, vi q.from', vi q.size, vi q.tier]] (some 5) ?_ [] [] _ rfl (RV (.bool (reqOk q))) (fun w hw => iReqOk_c w q) (by rintro _ ⟨⟩; exact Nat.le_of_ble_eq_true rfl) ?_)
  · as_aux_lemma => kernel_rfl
  rintro ⟨⟩
  refine RUN0 1 [] [(1, .p 0 0), (6, B (!(reqOk q)))] ?_ rfl ?_
  · as_aux_lemma => kernel_rfl
  refine ENDOPS (NEXT (IF (!(reqOk q)) ?_ (fun bh1 => ?_) (fun bh1 => ?_)))
  · as_aux_lemma => kernel_rfl
  · -- !(reqOk q) = true
    have h1 := bh1
    have h1 := notT h1
    refine SEQ (REGION [0] rfl (RUN0 1 [] [(2, .v (.string (bs ([]))))] ?_ rfl ?_))
    · as_aux_lemma => kernel_rfl
    refine ENDOPS (NEXT (RET (PASS trivial (FIN (.string (bs ([]))) ?_ () ?_ [] ?_))))
    · as_aux_lemma => kernel_rfl
    · simp_all [RV, reqBytes]
    · rfl
  · -- !(reqOk q) = false
    have h1 := bh1
    have h1 := notF h1
    refine SKIP (NEXT (SEQ (REGION [0, 1, 2, 3] rfl (RUN0 2 [2, 3] [(1, .p 0 0), (8, I q.kind)] ?_ rfl ?_))))
    · as_aux_lemma => kernel_rfl
    refine OPC (BUILDS 24 1 #[(0, .tmp 8)] 9 24 ?_ (Nat.le_of_ble_eq_true rfl) 3 [vi q.kind] ?_ intL [q.kind] rfl (by simp only [maxLen]; omega) [] [] _ rfl (flatRep rfl) (fun a2 ha3 => ?_))
    · as_aux_lemma => kernel_rfl
    · as_aux_lemma => kernel_rfl
    refine RUN0 1 [] [(1, .p 0 0), (3, .v (.slice a2 1 1))] ?_ rfl ?_
    · as_aux_lemma => kernel_rfl
    refine ENDOPS (NEXT (SEQ (SEQ (REGION [0, 1] rfl (RUN0 2 [] [(1, .p 0 0), (3, .v (.slice a2 1 1)), (11, I q.kind)] ?_ rfl ?_)))))
    · as_aux_lemma => kernel_rfl
    refine ENDOPS (NEXT (BLOCK (SEQ (REGION [0, 1] rfl (RUN0 2 [] [(1, .p 0 0), (3, .v (.slice a2 1 1)), (11, I q.kind), (17, B (q.kind == 1))] ?_ rfl ?_)))))
    · as_aux_lemma => kernel_rfl
    refine ENDOPS (NEXT (IF (q.kind == 1) ?_ (fun bh4 => ?_) (fun bh4 => ?_)))
    · as_aux_lemma => kernel_rfl
    · -- q.kind == 1 = true
      have h4 := bh4
      have h4 := eq_of_beq h4
      refine REGION [0, 1, 2, 3, 4, 5, 6, 7, 8, 9, 10, 11, 12, 13, 14] rfl (RUN0 12 [12, 13, 14] [(19, .v (.slice a2 1 1)), (21, I q.id), (23, I q.cabin), (26, I (wr (q.from' + 1))), (28, I q.size), (30, I q.tier)] ?_ rfl ?_)
      · as_aux_lemma => kernel_rfl
      refine OPC (BUILDS 24 5 #[(0, .tmp 21), (1, .tmp 23), (2, .tmp 26), (3, .tmp 28), (4, .tmp 30)] 31 24 ?_ (Nat.le_of_ble_eq_true rfl) 3 [vi q.id, vi q.cabin, vi (wr (q.from' + 1)), vi q.size, vi q.tier] ?_ intL [q.id, q.cabin, wr (q.from' + 1), q.size, q.tier] rfl (by simp only [maxLen]; omega) [] [] _ rfl (flatRep rfl) (fun a5 ha6 => ?_))
      · as_aux_lemma => kernel_rfl
      · as_aux_lemma => kernel_rfl
      refine OPC (APPENDO 24 (.tmp 19) (.tmp 31) 32 24 ?_ (Nat.le_of_ble_eq_true rfl) (.slice a2 1 1) a5 5 5 ?_ ?_ ha6 3 ?_ intL (vi 0) 8 ?_ rfl (by decide) 0 0 ([q.kind]) ([q.id, q.cabin, wr (q.from' + 1), q.size, q.tier]) _ rfl rfl (by first | omega | (simp only [List.length_append, List.length_cons, List.length_nil, List.length_take, List.length_drop] at *; omega)) (by simp only [maxLen]; first | omega | (simp only [List.length_append, List.length_cons, List.length_nil, List.length_take, List.length_drop] at *; omega)) (fun a7 c8 hn9 => ?_))
      · as_aux_lemma => kernel_rfl
      · as_aux_lemma => kernel_rfl
      · as_aux_lemma => kernel_rfl
      · as_aux_lemma => kernel_rfl
      · as_aux_lemma => kernel_rfl
      refine RUN0 1 [] [(3, .v (.slice a7 ((([q.kind]) ++ ([q.id, q.cabin, wr (q.from' + 1), q.size, q.tier])).length) c8))] ?_ rfl ?_
      · as_aux_lemma => kernel_rfl
      refine ENDOPS (OUTN (NEXT (SEQ (REGION [0, 1, 2] rfl (RUN0 1 [1, 2] [(44, .v (.slice a7 ((([q.kind]) ++ ([q.id, q.cabin, wr (q.from' + 1), q.size, q.tier])).length) c8))] ?_ rfl ?_)))))
      · as_aux_lemma => kernel_rfl
      refine OPC (CALL 50 #[.slice a7 ((([q.kind]) ++ ([q.id, q.cabin, wr (q.from' + 1), q.size, q.tier])).length) c8] (some 45) ?_ [] [] _ rfl (RV (.string (bs (putNums (([q.kind]) ++ ([q.id, q.cabin, wr (q.from' + 1), q.size, q.tier])))))) (fun w hw => iNums_c w (([q.kind]) ++ ([q.id, q.cabin, wr (q.from' + 1), q.size, q.tier])) a7 c8 (Rd.own (hw.own 0 rfl)) (by simp only [List.length_cons, List.length_append, List.length_nil]; omega)) (by rintro _ ⟨⟩; exact Nat.le_of_ble_eq_true rfl) ?_)
      · as_aux_lemma => kernel_rfl
      rintro ⟨⟩
      refine RUN0 1 [] [(2, .v (.string (bs (putNums (([q.kind]) ++ ([q.id, q.cabin, wr (q.from' + 1), q.size, q.tier]))))))] ?_ rfl ?_
      · as_aux_lemma => kernel_rfl
      refine ENDOPS (NEXT (RET (FIN (.string (bs (putNums (([q.kind]) ++ ([q.id, q.cabin, wr (q.from' + 1), q.size, q.tier]))))) ?_ () ?_ [] ?_)))
      · as_aux_lemma => kernel_rfl
      · simp_all [RV, reqBytes]
      · rfl
    · -- q.kind == 1 = false
      have h4 := bh4
      have h4 := ne_of_beq_false h4
      refine SEQ (REGION [0, 1] rfl (RUN0 2 [] [(1, .p 0 0), (3, .v (.slice a2 1 1)), (11, I q.kind), (33, B (q.kind == 3))] ?_ rfl ?_))
      · as_aux_lemma => kernel_rfl
      refine ENDOPS (NEXT (IF (q.kind == 3) ?_ (fun bh10 => ?_) (fun bh10 => ?_)))
      · as_aux_lemma => kernel_rfl
      · -- q.kind == 3 = true
        have h10 := bh10
        have h10 := eq_of_beq h10
        refine REGION [0, 1, 2, 3, 4, 5, 6, 7] rfl (RUN0 5 [5, 6, 7] [(35, .v (.slice a2 1 1)), (37, I q.cabin), (39, I q.size)] ?_ rfl ?_)
        · as_aux_lemma => kernel_rfl
        refine OPC (BUILDS 24 2 #[(0, .tmp 37), (1, .tmp 39)] 40 24 ?_ (Nat.le_of_ble_eq_true rfl) 3 [vi q.cabin, vi q.size] ?_ intL [q.cabin, q.size] rfl (by simp only [maxLen]; omega) [] [] _ rfl (flatRep rfl) (fun a11 ha12 => ?_))
        · as_aux_lemma => kernel_rfl
        · as_aux_lemma => kernel_rfl
        refine OPC (APPENDO 24 (.tmp 35) (.tmp 40) 41 24 ?_ (Nat.le_of_ble_eq_true rfl) (.slice a2 1 1) a11 2 2 ?_ ?_ ha12 3 ?_ intL (vi 0) 8 ?_ rfl (by decide) 0 0 ([q.kind]) ([q.cabin, q.size]) _ rfl rfl (by first | omega | (simp only [List.length_append, List.length_cons, List.length_nil, List.length_take, List.length_drop] at *; omega)) (by simp only [maxLen]; first | omega | (simp only [List.length_append, List.length_cons, List.length_nil, List.length_take, List.length_drop] at *; omega)) (fun a13 c14 hn15 => ?_))
        · as_aux_lemma => kernel_rfl
        · as_aux_lemma => kernel_rfl
        · as_aux_lemma => kernel_rfl
        · as_aux_lemma => kernel_rfl
        · as_aux_lemma => kernel_rfl
        refine RUN0 1 [] [(3, .v (.slice a13 ((([q.kind]) ++ ([q.cabin, q.size])).length) c14))] ?_ rfl ?_
        · as_aux_lemma => kernel_rfl
        refine ENDOPS (OUTN (NEXT (SEQ (REGION [0, 1, 2] rfl (RUN0 1 [1, 2] [(44, .v (.slice a13 ((([q.kind]) ++ ([q.cabin, q.size])).length) c14))] ?_ rfl ?_)))))
        · as_aux_lemma => kernel_rfl
        refine OPC (CALL 50 #[.slice a13 ((([q.kind]) ++ ([q.cabin, q.size])).length) c14] (some 45) ?_ [] [] _ rfl (RV (.string (bs (putNums (([q.kind]) ++ ([q.cabin, q.size])))))) (fun w hw => iNums_c w (([q.kind]) ++ ([q.cabin, q.size])) a13 c14 (Rd.own (hw.own 0 rfl)) (by simp only [List.length_cons, List.length_append, List.length_nil]; omega)) (by rintro _ ⟨⟩; exact Nat.le_of_ble_eq_true rfl) ?_)
        · as_aux_lemma => kernel_rfl
        rintro ⟨⟩
        refine RUN0 1 [] [(2, .v (.string (bs (putNums (([q.kind]) ++ ([q.cabin, q.size]))))))] ?_ rfl ?_
        · as_aux_lemma => kernel_rfl
        refine ENDOPS (NEXT (RET (FIN (.string (bs (putNums (([q.kind]) ++ ([q.cabin, q.size]))))) ?_ () ?_ [] ?_)))
        · as_aux_lemma => kernel_rfl
        · simp_all [RV, reqBytes]
        · rfl
      · -- q.kind == 3 = false
        have h10 := bh10
        have h10 := ne_of_beq_false h10
        refine SEQ (REGION [0, 1] rfl (RUN0 2 [] [(1, .p 0 0), (3, .v (.slice a2 1 1)), (42, B (q.kind == 6))] ?_ rfl ?_))
        · as_aux_lemma => kernel_rfl
        refine ENDOPS (NEXT (IF (q.kind == 6) ?_ (fun bh16 => ?_) (fun bh16 => ?_)))
        · as_aux_lemma => kernel_rfl
        · -- q.kind == 6 = true
          have h16 := bh16
          have h16 := eq_of_beq h16
          refine SKIP (OUTN (NEXT (SEQ (REGION [0, 1, 2] rfl (RUN0 1 [1, 2] [(44, .v (.slice a2 1 1))] ?_ rfl ?_)))))
          · as_aux_lemma => kernel_rfl
          refine OPC (CALL 50 #[.slice a2 1 1] (some 45) ?_ [] [] _ rfl (RV (.string (bs (putNums ([q.kind]))))) (fun w hw => iNums_c w ([q.kind]) a2 1 (Rd.own (hw.own 0 rfl)) (by simp only [List.length_cons, List.length_append, List.length_nil]; omega)) (by rintro _ ⟨⟩; exact Nat.le_of_ble_eq_true rfl) ?_)
          · as_aux_lemma => kernel_rfl
          rintro ⟨⟩
          refine RUN0 1 [] [(2, .v (.string (bs (putNums ([q.kind])))))] ?_ rfl ?_
          · as_aux_lemma => kernel_rfl
          refine ENDOPS (NEXT (RET (FIN (.string (bs (putNums ([q.kind])))) ?_ () ?_ [] ?_)))
          · as_aux_lemma => kernel_rfl
          · simp_all [RV, reqBytes]
          · rfl
        · -- q.kind == 6 = false
          have h16 := bh16
          have h16 := ne_of_beq_false h16
          refine REGION [0, 1, 2, 3, 4, 5] rfl (RUN0 3 [3, 4, 5] [(12, .v (.slice a2 1 1)), (14, I q.id)] ?_ rfl ?_)
          · as_aux_lemma => kernel_rfl
          refine OPC (BUILDS 24 1 #[(0, .tmp 14)] 15 24 ?_ (Nat.le_of_ble_eq_true rfl) 3 [vi q.id] ?_ intL [q.id] rfl (by simp only [maxLen]; omega) [] [] _ rfl (flatRep rfl) (fun a17 ha18 => ?_))
          · as_aux_lemma => kernel_rfl
          · as_aux_lemma => kernel_rfl
          refine OPC (APPENDO 24 (.tmp 12) (.tmp 15) 16 24 ?_ (Nat.le_of_ble_eq_true rfl) (.slice a2 1 1) a17 1 1 ?_ ?_ ha18 3 ?_ intL (vi 0) 8 ?_ rfl (by decide) 0 0 ([q.kind]) ([q.id]) _ rfl rfl (by first | omega | (simp only [List.length_append, List.length_cons, List.length_nil, List.length_take, List.length_drop] at *; omega)) (by simp only [maxLen]; first | omega | (simp only [List.length_append, List.length_cons, List.length_nil, List.length_take, List.length_drop] at *; omega)) (fun a19 c20 hn21 => ?_))
          · as_aux_lemma => kernel_rfl
          · as_aux_lemma => kernel_rfl
          · as_aux_lemma => kernel_rfl
          · as_aux_lemma => kernel_rfl
          · as_aux_lemma => kernel_rfl
          refine RUN0 1 [] [(3, .v (.slice a19 ((([q.kind]) ++ ([q.id])).length) c20))] ?_ rfl ?_
          · as_aux_lemma => kernel_rfl
          refine ENDOPS (OUTN (NEXT (SEQ (REGION [0, 1, 2] rfl (RUN0 1 [1, 2] [(44, .v (.slice a19 ((([q.kind]) ++ ([q.id])).length) c20))] ?_ rfl ?_)))))
          · as_aux_lemma => kernel_rfl
          refine OPC (CALL 50 #[.slice a19 ((([q.kind]) ++ ([q.id])).length) c20] (some 45) ?_ [] [] _ rfl (RV (.string (bs (putNums (([q.kind]) ++ ([q.id])))))) (fun w hw => iNums_c w (([q.kind]) ++ ([q.id])) a19 c20 (Rd.own (hw.own 0 rfl)) (by simp only [List.length_cons, List.length_append, List.length_nil]; omega)) (by rintro _ ⟨⟩; exact Nat.le_of_ble_eq_true rfl) ?_)
          · as_aux_lemma => kernel_rfl
          rintro ⟨⟩
          refine RUN0 1 [] [(2, .v (.string (bs (putNums (([q.kind]) ++ ([q.id]))))))] ?_ rfl ?_
          · as_aux_lemma => kernel_rfl
          refine ENDOPS (NEXT (RET (FIN (.string (bs (putNums (([q.kind]) ++ ([q.id]))))) ?_ () ?_ [] ?_)))
          · as_aux_lemma => kernel_rfl
          · simp_all [RV, reqBytes]
          · rfl

theorem sNoteOf_c (W : World) (seq : Int) (q : Req) : Spec Try.prog W [] 37 #[vi seq, .agg #[vi q.kind, vi q.id, vi q.cabin, vi q.from', vi q.size, vi q.tier]] (RV (.string (bs (noteOf seq q)))) := by
  refine ENTER0 (N := 13) (vs := [vi seq, .agg #[vi q.kind, vi q.id, vi q.cabin, vi q.from', vi q.size, vi q.tier]]) Try.func37 rfl rfl (Nat.le_of_ble_eq_true rfl) ?_
  refine SEQ (REGION [0, 1] rfl (RUN 2 [] [(0, I seq), (3, .p 0 0)] [(41, [vi q.kind, vi q.id, vi q.cabin, vi q.from', vi q.size, vi q.tier])] ?_ rfl ?_))
  · as_aux_lemma => kernel_rfl
  refine ENDOPS (NEXT (SEQ (REGION [0, 1, 2] rfl (RUN0 1 [1, 2] [(0, I seq), (6, .v (.agg #[vi q.kind, vi q.id, vi q.cabin, vi q.from', vi q.size, vi q.tier]))] ?_ rfl ?_))))
  · as_aux_lemma => kernel_rfl
  refine OPC (CALL 40 #[.agg #[vi q.kind, vi q.id, vi q.cabin, vi q.from', vi q.size, vi q.tier]] (some 7) ?_ [] [] _ rfl (RV (.string (bs (reqBytes q)))) (fun w hw => sReqBytes_c w q) (by rintro _ ⟨⟩; exact Nat.le_of_ble_eq_true rfl) ?_)
  · as_aux_lemma => kernel_rfl
  rintro ⟨⟩
  have hr1 := reqBytes_len q
  refine RUN0 1 [] [(0, I seq), (5, .v (.string (bs (reqBytes q))))] ?_ rfl ?_
  · as_aux_lemma => kernel_rfl
  refine ENDOPS (NEXT (SEQ (SEQ (REGION [0, 1] rfl (RUN0 1 [1] [(0, I seq), (5, .v (.string (bs (reqBytes q)))), (8, .v (.string (bs (reqBytes q))))] ?_ rfl ?_)))))
  · as_aux_lemma => kernel_rfl
  refine OPC (RUNV (.binOp .eql 9 (.tmp 8) (.const (.string (bs ([])))) 9) 9 4 ?_ (Nat.le_of_ble_eq_true rfl) (.bool ((reqBytes q) == ([]))) (runs_seql (a := reqBytes q) (b := []) ?_ ?_) ?_)
  · as_aux_lemma => kernel_rfl
  · as_aux_lemma => kernel_rfl
  · as_aux_lemma => kernel_rfl
  refine ENDOPS (NEXT (IF ((reqBytes q) == ([])) ?_ (fun bh2 => ?_) (fun bh2 => ?_)))
  · as_aux_lemma => kernel_rfl
  · -- (reqBytes q) == ([]) = true
    have h2 := bh2
    have h2 := eq_of_beq h2
    refine SEQ (REGION [0] rfl (RUN0 1 [] [(4, .v (.string (bs ([]))))] ?_ rfl ?_))
    · as_aux_lemma => kernel_rfl
    refine ENDOPS (NEXT (RET (PASS trivial (FIN (.string (bs ([]))) ?_ () ?_ [] ?_))))
    · as_aux_lemma => kernel_rfl
    · simp_all [RV, noteOf, frameOf_nil]
    · rfl
  · -- (reqBytes q) == ([]) = false
    have h2 := bh2
    have h2 := ne_of_beq_false h2
    refine SKIP (NEXT (SEQ (REGION [0, 1, 2, 3] rfl (RUN0 2 [2, 3] [(10, I seq), (11, .v (.string (bs (reqBytes q))))] ?_ rfl ?_))))
    · as_aux_lemma => kernel_rfl
    refine OPC (CALL 41 #[vi seq, .string (bs (reqBytes q))] (some 12) ?_ [] [] _ rfl (RV (.string (bs (frameOf seq (reqBytes q))))) (fun w hw => sFrameOf_c w seq (reqBytes q) (by first | omega | (simp only [List.length_append, List.length_cons, List.length_nil, List.length_take, List.length_drop] at *; omega))) (by rintro _ ⟨⟩; exact Nat.le_of_ble_eq_true rfl) ?_)
    · as_aux_lemma => kernel_rfl
    rintro ⟨⟩
    have hr3 := frameOf_len seq (reqBytes q)
    refine RUN0 1 [] [(4, .v (.string (bs (frameOf seq (reqBytes q)))))] ?_ rfl ?_
    · as_aux_lemma => kernel_rfl
    refine ENDOPS (NEXT (RET (FIN (.string (bs (frameOf seq (reqBytes q)))) ?_ () ?_ [] ?_)))
    · as_aux_lemma => kernel_rfl
    · simp_all [RV, noteOf, frameOf_nil]
    · rfl

theorem iNoteOf_c (W : World) (seq : Int) (q : Req) : Spec Try.prog W [] 38 #[vi seq, .agg #[vi q.kind, vi q.id, vi q.cabin, vi q.from', vi q.size, vi q.tier]] (RV (.string (bs (noteOf seq q)))) := by
  refine ENTER0 (N := 9) (vs := [vi seq, .agg #[vi q.kind, vi q.id, vi q.cabin, vi q.from', vi q.size, vi q.tier]]) Try.func38 rfl rfl (Nat.le_of_ble_eq_true rfl) ?_
  refine SEQ (REGION [0, 1] rfl (RUN 2 [] [(0, I seq), (3, .p 0 0)] [(41, [vi q.kind, vi q.id, vi q.cabin, vi q.from', vi q.size, vi q.tier])] ?_ rfl ?_))
  · as_aux_lemma => kernel_rfl
  refine ENDOPS (NEXT (SEQ (REGION [0, 1, 2, 3, 4] rfl (RUN0 2 [2, 3, 4] [(5, I seq), (6, .v (.agg #[vi q.kind, vi q.id, vi q.cabin, vi q.from', vi q.size, vi q.tier]))] ?_ rfl ?_))))
  · as_aux_lemma => kernel_rfl
  refine OPC (CALL 43 #[.agg #[vi q.kind, vi q.id, vi q.cabin, vi q.from', vi q.size, vi q.tier]] (some 7) ?_ [] [] _ rfl (RV (.string (bs (reqBytes q)))) (fun w hw => iReqBytes_c w q) (by rintro _ ⟨⟩; exact Nat.le_of_ble_eq_true rfl) ?_)
  · as_aux_lemma => kernel_rfl
  rintro ⟨⟩
  have hr1 := reqBytes_len q
  refine OPC (CALL 42 #[vi seq, .string (bs (reqBytes q))] (some 8) ?_ [] [] _ rfl (RV (.string (bs (frameOf seq (reqBytes q))))) (fun w hw => iFrameOf_c w seq (reqBytes q) (by first | omega | (simp only [List.length_append, List.length_cons, List.length_nil, List.length_take, List.length_drop] at *; omega))) (by rintro _ ⟨⟩; exact Nat.le_of_ble_eq_true rfl) ?_)
  · as_aux_lemma => kernel_rfl
  rintro ⟨⟩
  have hr2 := frameOf_len seq (reqBytes q)
  refine RUN0 1 [] [(4, .v (.string (bs (frameOf seq (reqBytes q)))))] ?_ rfl ?_
  · as_aux_lemma => kernel_rfl
  refine ENDOPS (NEXT (RET (FIN (.string (bs (frameOf seq (reqBytes q)))) ?_ () ?_ [] ?_)))
  · as_aux_lemma => kernel_rfl
  · simp_all [RV, noteOf]
  · rfl

theorem sNoteLen_c (W : World) (q : Req) : Spec Try.prog W [] 22 #[.agg #[vi q.kind, vi q.id, vi q.cabin, vi q.from', vi q.size, vi q.tier]] (RV (vi (noteLen q))) := by
  refine ENTER0 (N := 6) (vs := [.agg #[vi q.kind, vi q.id, vi q.cabin, vi q.from', vi q.size, vi q.tier]]) Try.func22 rfl rfl (Nat.le_of_ble_eq_true rfl) ?_
  refine SEQ (REGION [0, 1] rfl (RUN 2 [] [(1, .p 0 0)] [(41, [vi q.kind, vi q.id, vi q.cabin, vi q.from', vi q.size, vi q.tier])] ?_ rfl ?_))
  · as_aux_lemma => kernel_rfl
  refine ENDOPS (NEXT (SEQ (REGION [0, 1, 2, 3] rfl (RUN0 1 [1, 2, 3] [(3, .v (.agg #[vi q.kind, vi q.id, vi q.cabin, vi q.from', vi q.size, vi q.tier]))] ?_ rfl ?_))))
  · as_aux_lemma => kernel_rfl
  refine OPC (CALL 37 #[vi 1000000, .agg #[vi q.kind, vi q.id, vi q.cabin, vi q.from', vi q.size, vi q.tier]] (some 4) ?_ [] [] _ rfl (RV (.string (bs (noteOf 1000000 q)))) (fun w hw => sNoteOf_c w 1000000 q) (by rintro _ ⟨⟩; exact Nat.le_of_ble_eq_true rfl) ?_)
  · as_aux_lemma => kernel_rfl
  rintro ⟨⟩
  refine RUN0 2 [] [(2, I (((noteOf 1000000 q).length : Nat) : Int))] ?_ rfl ?_
  · as_aux_lemma => kernel_rfl
  refine ENDOPS (NEXT (RET (FIN (vi (((noteOf 1000000 q).length : Nat) : Int)) ?_ () ?_ [] ?_)))
  · as_aux_lemma => kernel_rfl
  · simp [RV, noteLen]
  · rfl

theorem iNoteLen_c (W : World) (q : Req) : Spec Try.prog W [] 24 #[.agg #[vi q.kind, vi q.id, vi q.cabin, vi q.from', vi q.size, vi q.tier]] (RV (vi (noteLen q))) := by
  refine ENTER0 (N := 6) (vs := [.agg #[vi q.kind, vi q.id, vi q.cabin, vi q.from', vi q.size, vi q.tier]]) Try.func24 rfl rfl (Nat.le_of_ble_eq_true rfl) ?_
  refine SEQ (REGION [0, 1] rfl (RUN 2 [] [(1, .p 0 0)] [(41, [vi q.kind, vi q.id, vi q.cabin, vi q.from', vi q.size, vi q.tier])] ?_ rfl ?_))
  · as_aux_lemma => kernel_rfl
  refine ENDOPS (NEXT (SEQ (REGION [0, 1, 2, 3] rfl (RUN0 1 [1, 2, 3] [(3, .v (.agg #[vi q.kind, vi q.id, vi q.cabin, vi q.from', vi q.size, vi q.tier]))] ?_ rfl ?_))))
  · as_aux_lemma => kernel_rfl
  refine OPC (CALL 38 #[vi 1000000, .agg #[vi q.kind, vi q.id, vi q.cabin, vi q.from', vi q.size, vi q.tier]] (some 4) ?_ [] [] _ rfl (RV (.string (bs (noteOf 1000000 q)))) (fun w hw => iNoteOf_c w 1000000 q) (by rintro _ ⟨⟩; exact Nat.le_of_ble_eq_true rfl) ?_)
  · as_aux_lemma => kernel_rfl
  rintro ⟨⟩
  refine RUN0 2 [] [(2, I (((noteOf 1000000 q).length : Nat) : Int))] ?_ rfl ?_
  · as_aux_lemma => kernel_rfl
  refine ENDOPS (NEXT (RET (FIN (vi (((noteOf 1000000 q).length : Nat) : Int)) ?_ () ?_ [] ?_)))
  · as_aux_lemma => kernel_rfl
  · simp [RV, noteLen]
  · rfl

theorem exNoteLen_c (W : World) (aQ : Req) : Spec Try.prog W [] 7 #[.agg #[vi aQ.kind, vi aQ.id, vi aQ.cabin, vi aQ.from', vi aQ.size, vi aQ.tier]] (RV (.bool true)) := by
  refine ENTER0 (N := 14) (vs := [.agg #[vi aQ.kind, vi aQ.id, vi aQ.cabin, vi aQ.from', vi aQ.size, vi aQ.tier]]) Try.func7 rfl rfl (Nat.le_of_ble_eq_true rfl) ?_
  refine SEQ (REGION [0, 1] rfl (RUN 2 [] [(1, .p 0 0)] [(36, [vi aQ.kind, vi aQ.id, vi aQ.cabin, vi aQ.from', vi aQ.size, vi aQ.tier])] ?_ rfl ?_))
  · as_aux_lemma => kernel_rfl
  refine ENDOPS (NEXT (SEQ (REGION [0, 1, 2, 3] rfl (RUN0 1 [1, 2, 3] [(1, .p 0 0), (5, .v (.agg #[vi aQ.kind, vi aQ.id, vi aQ.cabin, vi aQ.from', vi aQ.size, vi aQ.tier]))] ?_ rfl ?_))))
  · as_aux_lemma => kernel_rfl
  refine OPC (CALL 23 #[.agg #[vi aQ.kind, vi aQ.id, vi aQ.cabin, vi aQ.from', vi aQ.size, vi aQ.tier]] (some 6) ?_ [] [] _ rfl (RV (.agg #[vi aQ.kind, vi aQ.id, vi aQ.cabin, vi aQ.from', vi aQ.size, vi aQ.tier])) (fun w hw => toReq_c w aQ) (by rintro _ ⟨⟩; exact Nat.le_of_ble_eq_true rfl) ?_)
  · as_aux_lemma => kernel_rfl
  rintro ⟨⟩
  refine OPC (CALL 22 #[.agg #[vi aQ.kind, vi aQ.id, vi aQ.cabin, vi aQ.from', vi aQ.size, vi aQ.tier]] (some 7) ?_ [] [] _ rfl (RV (vi (noteLen aQ))) (fun w hw => sNoteLen_c w aQ) (by rintro _ ⟨⟩; exact Nat.le_of_ble_eq_true rfl) ?_)
  · as_aux_lemma => kernel_rfl
  rintro ⟨⟩
  refine RUN0 1 [] [(1, .p 0 0), (3, I (noteLen aQ))] ?_ rfl ?_
  · as_aux_lemma => kernel_rfl
  refine ENDOPS (NEXT (SEQ (REGION [0, 1, 2, 3] rfl (RUN0 1 [1, 2, 3] [(3, I (noteLen aQ)), (8, .v (.agg #[vi aQ.kind, vi aQ.id, vi aQ.cabin, vi aQ.from', vi aQ.size, vi aQ.tier]))] ?_ rfl ?_))))
  · as_aux_lemma => kernel_rfl
  refine OPC (CALL 23 #[.agg #[vi aQ.kind, vi aQ.id, vi aQ.cabin, vi aQ.from', vi aQ.size, vi aQ.tier]] (some 9) ?_ [] [] _ rfl (RV (.agg #[vi aQ.kind, vi aQ.id, vi aQ.cabin, vi aQ.from', vi aQ.size, vi aQ.tier])) (fun w hw => toReq_c w aQ) (by rintro _ ⟨⟩; exact Nat.le_of_ble_eq_true rfl) ?_)
  · as_aux_lemma => kernel_rfl
  rintro ⟨⟩
  refine OPC (CALL 24 #[.agg #[vi aQ.kind, vi aQ.id, vi aQ.cabin, vi aQ.from', vi aQ.size, vi aQ.tier]] (some 10) ?_ [] [] _ rfl (RV (vi (noteLen aQ))) (fun w hw => iNoteLen_c w aQ) (by rintro _ ⟨⟩; exact Nat.le_of_ble_eq_true rfl) ?_)
  · as_aux_lemma => kernel_rfl
  rintro ⟨⟩
  refine RUN0 1 [] [(3, I (noteLen aQ)), (4, I (noteLen aQ))] ?_ rfl ?_
  · as_aux_lemma => kernel_rfl
  refine ENDOPS (NEXT (SEQ (SEQ (REGION [0, 1, 2] rfl (RUN0 3 [] [(13, B ((noteLen aQ) != (noteLen aQ)))] ?_ rfl ?_)))))
  · as_aux_lemma => kernel_rfl
  refine ENDOPS (NEXT (IF ((noteLen aQ) != (noteLen aQ)) ?_ (fun bh1 => ?_) (fun bh1 => ?_)))
  · as_aux_lemma => kernel_rfl
  · -- (noteLen aQ) != (noteLen aQ) = true
    have h1 := bh1
    have h1 := bne_iff_ne.1 h1
    refine SEQ (REGION [0] rfl (RUN0 1 [] [(2, B false)] ?_ rfl ?_))
    · as_aux_lemma => kernel_rfl
    refine ENDOPS (NEXT (RET (PASS trivial (FIN (.bool false) ?_ () ?_ [] ?_))))
    · as_aux_lemma => kernel_rfl
    · simp_all [RV, eqReq_refl]
    · rfl
  · -- (noteLen aQ) != (noteLen aQ) = false
    have h1 := bh1
    have h1 := bneF h1
    refine SKIP (NEXT (SEQ (REGION [0] rfl (RUN0 1 [] [(2, B true)] ?_ rfl ?_))))
    · as_aux_lemma => kernel_rfl
    refine ENDOPS (NEXT (RET (FIN (.bool true) ?_ () ?_ [] ?_)))
    · as_aux_lemma => kernel_rfl
    · simp_all [RV, eqReq_refl]
    · rfl

end SX
end Go.Proofs.Ytcjaeedkhlnegaa
