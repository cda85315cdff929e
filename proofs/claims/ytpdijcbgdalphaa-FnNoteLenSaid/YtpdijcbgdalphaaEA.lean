/- Walks, printed by program. -/
import Derived.Test.YtpdijcbgdalphaaE9
namespace Go.Proofs.Ytpdijcbgdalphaa
namespace SX
open Go Go.RowKit
set_option linter.unusedVariables false
set_option linter.unusedSimpArgs false
set_option maxRecDepth 10000
set_option maxHeartbeats 400000
theorem fnNoteLen_c (W : World) (code : List UInt8) (code_a : Option Addr) (code_c : Nat) (hcode : Rd byteL W code_a code) : Spec Try.prog W [] 3 #[.slice code_a code.length code_c] (RV (.bool true)) := by
  refine ENTER0 (N := 37) (vs := [.slice code_a code.length code_c]) Try.func3 rfl rfl (Nat.le_of_ble_eq_true rfl) ?_
  have hcode_len := hcode.len
  refine SEQ (REGION [0] rfl (RUN0 1 [] [(0, .v (.slice code_a code.length code_c))] ?_ rfl ?_))
  · as_aux_lemma => kernel_rfl
  refine ENDOPS (NEXT (SEQ (SEQ (REGION [0, 1] rfl (RUN0 1 [1] [(0, .v (.slice code_a code.length code_c)), (7, .v (.slice code_a code.length code_c))] ?_ rfl ?_)))))
  · as_aux_lemma => kernel_rfl
  refine OPC (CALL 4 #[.slice code_a code.length code_c] (some 8) ?_ [] [] _ rfl (RV (.bool (decide ((code.length : Int) > 1048576)))) (fun w hw => big_c w code code_a code_c (hcode.fr hw.fr)) (by rintro _ ⟨⟩; exact Nat.le_of_ble_eq_true rfl) ?_)
  · as_aux_lemma => kernel_rfl
  rintro ⟨⟩
  refine ENDOPS (NEXT (IF (decide ((code.length : Int) > 1048576)) ?_ (fun bh1 => ?_) (fun bh1 => ?_)))
  · as_aux_lemma => kernel_rfl
  · -- decide ((code.length : Int) > 1048576) = true
    have h1 := bh1
    have h1 := of_decide_eq_true h1
    refine SEQ (REGION [0] rfl (RUN0 1 [] [(2, B true)] ?_ rfl ?_))
    · as_aux_lemma => kernel_rfl
    refine ENDOPS (NEXT (RET (PASS trivial (FIN (.bool true) ?_ () ?_ [] ?_))))
    · as_aux_lemma => kernel_rfl
    · (first | rfl | (exfalso; omega) | (simp [RV, logMost_one]; done) | (simp_all [RV, logMost_one]; done))
    · rfl
  · -- decide ((code.length : Int) > 1048576) = false
    have h1 := bh1
    have h1 := of_decide_eq_false h1
    refine SKIP (NEXT (SEQ (REGION [0, 1, 2, 3] rfl (RUN0 1 [1, 2, 3] [(0, .v (.slice code_a code.length code_c)), (9, .v (.slice code_a code.length code_c))] ?_ rfl ?_))))
    · as_aux_lemma => kernel_rfl
    refine OPC (CALL 5 #[.slice code_a code.length code_c] (some 10) ?_ [] [] _ rfl (⟨{x : Req // True}, fun q => .agg #[vi q.1.kind, vi q.1.id, vi q.1.cabin, vi q.1.from', vi q.1.size, vi q.1.tier], fun q => []⟩) (fun w hw => drawNoteLen_c w code code_a code_c (hcode.fr hw.fr)) (by rintro _ ⟨⟩; exact Nat.le_of_ble_eq_true rfl) ?_)
    · as_aux_lemma => kernel_rfl
    rintro ⟨m2, hm3⟩
    try dsimp only at hm3
    refine RUN 2 [] [(0, .v (.slice code_a code.length code_c)), (3, .p 0 0)] [(25, [vi m2.kind, vi m2.id, vi m2.cabin, vi m2.from', vi m2.size, vi m2.tier])] ?_ rfl ?_
    · as_aux_lemma => kernel_rfl
    refine ENDOPS (NEXT (SEQ (REGION [0, 1, 2, 3, 4, 5, 6, 7] rfl (RUN0 1 [1, 2, 3, 4, 5, 6, 7] [(3, .p 0 0), (12, .v (.slice code_a code.length code_c))] ?_ rfl ?_))))
    · as_aux_lemma => kernel_rfl
    refine OPC (CALL 6 #[.slice code_a code.length code_c] (some 13) ?_ [] [] _ rfl (⟨{x : Int × Req // True}, fun q => .tuple #[vi q.1.1, .agg #[vi q.1.2.kind, vi q.1.2.id, vi q.1.2.cabin, vi q.1.2.from', vi q.1.2.size, vi q.1.2.tier]], fun q => []⟩) (fun w hw => drawNoteOf_c w code code_a code_c (hcode.fr hw.fr)) (by rintro _ ⟨⟩; exact Nat.le_of_ble_eq_true rfl) ?_)
    · as_aux_lemma => kernel_rfl
    rintro ⟨m4, hm5⟩
    try dsimp only at hm5
    refine RUN 6 [] [(3, .p 0 0), (4, I m4.1)] [(25, [vi m2.kind, vi m2.id, vi m2.cabin, vi m2.from', vi m2.size, vi m2.tier]), (25, [vi m4.2.kind, vi m4.2.id, vi m4.2.cabin, vi m4.2.from', vi m4.2.size, vi m4.2.tier])] ?_ rfl ?_
    · as_aux_lemma => kernel_rfl
    refine ENDOPS (NEXT (SEQ (REGION [0, 1, 2] rfl (RUN0 1 [1, 2] [(3, .p 0 0), (4, I m4.1), (16, .v (.agg #[vi m2.kind, vi m2.id, vi m2.cabin, vi m2.from', vi m2.size, vi m2.tier]))] ?_ rfl ?_))))
    · as_aux_lemma => kernel_rfl
    refine OPC (CALL 7 #[.agg #[vi m2.kind, vi m2.id, vi m2.cabin, vi m2.from', vi m2.size, vi m2.tier]] (some 17) ?_ [] [] _ rfl (RV (vi (noteLen m2))) (fun w hw => iNoteLen_c w m2) (by rintro _ ⟨⟩; exact Nat.le_of_ble_eq_true rfl) ?_)
    · as_aux_lemma => kernel_rfl
    rintro ⟨⟩
    have hr6 := noteLen_le m2
    refine RUN0 1 [] [(3, .p 0 0), (4, I m4.1), (6, I (noteLen m2))] ?_ rfl ?_
    · as_aux_lemma => kernel_rfl
    refine ENDOPS (NEXT (SEQ (SEQ (REGION [0, 1, 2, 3] rfl (RUN0 2 [2, 3] [(3, .p 0 0), (4, I m4.1), (6, I (noteLen m2)), (18, I (noteLen m2)), (19, .v (.agg #[vi m2.kind, vi m2.id, vi m2.cabin, vi m2.from', vi m2.size, vi m2.tier]))] ?_ rfl ?_)))))
    · as_aux_lemma => kernel_rfl
    refine OPC (CALL 8 #[.agg #[vi m2.kind, vi m2.id, vi m2.cabin, vi m2.from', vi m2.size, vi m2.tier]] (some 20) ?_ [] [] _ rfl (RV (vi (noteLen m2))) (fun w hw => sNoteLen_c w m2) (by rintro _ ⟨⟩; exact Nat.le_of_ble_eq_true rfl) ?_)
    · as_aux_lemma => kernel_rfl
    rintro ⟨⟩
    have hr7 := noteLen_le m2
    refine RUN0 1 [] [(3, .p 0 0), (4, I m4.1), (6, I (noteLen m2)), (21, B ((noteLen m2) != (noteLen m2)))] ?_ rfl ?_
    · as_aux_lemma => kernel_rfl
    refine ENDOPS (NEXT (IF ((noteLen m2) != (noteLen m2)) ?_ (fun bh8 => ?_) (fun bh8 => ?_)))
    · as_aux_lemma => kernel_rfl
    · -- (noteLen m2) != (noteLen m2) = true
      have h8 := bh8
      have h8 := bne_iff_ne.1 h8
      refine SEQ (REGION [0] rfl (RUN0 1 [] [(2, B false)] ?_ rfl ?_))
      · as_aux_lemma => kernel_rfl
      refine ENDOPS (NEXT (RET (PASS trivial (FIN (.bool false) ?_ () ?_ [] ?_))))
      · as_aux_lemma => kernel_rfl
      · (first | rfl | (exfalso; omega) | (simp [RV, logMost_one]; done) | (simp_all [RV, logMost_one]; done))
      · rfl
    · -- (noteLen m2) != (noteLen m2) = false
      have h8 := bh8
      have h8 := bneF h8
      refine SKIP (NEXT (SEQ (REGION [0, 1, 2, 3, 4, 5, 6, 7, 8, 9, 10, 11, 12, 13, 14, 15] rfl (RUN0 1 [1, 2, 3, 4, 5, 6, 7, 8, 9, 10, 11, 12, 13, 14, 15] [(3, .p 0 0), (4, I m4.1), (6, I (noteLen m2)), (22, I (noteLen m2))] ?_ rfl ?_))))
      · as_aux_lemma => kernel_rfl
      refine OPC (CALL 9 #[vi 1] (some 23) ?_ [] [] _ rfl (RV (vi (logMost 1))) (fun w hw => iLogMost_c w 1) (by rintro _ ⟨⟩; exact Nat.le_of_ble_eq_true rfl) ?_)
      · as_aux_lemma => kernel_rfl
      rintro ⟨⟩
      have hr9 := logMost_one
      refine RUN0 2 [4, 5, 6, 7, 8, 9, 10, 11, 12, 13, 14, 15] [(3, .p 0 0), (4, I m4.1), (6, I (noteLen m2)), (25, B (decide ((noteLen m2) ≤ (logMost 1))))] ?_ rfl ?_
      · as_aux_lemma => kernel_rfl
      refine SPLIT (d := 25) (decide ((noteLen m2) ≤ (logMost 1))) ?_ (fun bh10 => ?_) (fun bh10 => ?_)
      · as_aux_lemma => kernel_rfl
      · -- decide ((noteLen m2) ≤ (logMost 1)) = true
        have h10 := bh10
        have h10 := of_decide_eq_true h10
        refine RUN0 2 [6, 7, 8, 9, 10, 11, 12, 13, 14, 15] [(6, I (noteLen m2)), (25, B true), (26, I m4.1), (27, .v (.agg #[vi m2.kind, vi m2.id, vi m2.cabin, vi m2.from', vi m2.size, vi m2.tier]))] ?_ rfl ?_
        · as_aux_lemma => kernel_rfl
        refine OPC (CALL 10 #[vi m4.1, .agg #[vi m2.kind, vi m2.id, vi m2.cabin, vi m2.from', vi m2.size, vi m2.tier]] (some 28) ?_ [] [] _ rfl (RV (.string (bs (noteOf m4.1 m2)))) (fun w hw => iNoteOf_c w m4.1 m2) (by rintro _ ⟨⟩; exact Nat.le_of_ble_eq_true rfl) ?_)
        · as_aux_lemma => kernel_rfl
        rintro ⟨⟩
        have hr11 := noteOf_le m4.1 m2
        refine RUN0 5 [12, 13, 14, 15] [(33, B (decide ((((noteOf m4.1 m2).length : Nat) : Int) ≤ (noteLen m2))))] ?_ rfl ?_
        · as_aux_lemma => kernel_rfl
        refine SPLIT (d := 33) (decide ((((noteOf m4.1 m2).length : Nat) : Int) ≤ (noteLen m2))) ?_ (fun bh12 => ?_) (fun bh12 => ?_)
        · as_aux_lemma => kernel_rfl
        · -- decide ((((noteOf m4.1 m2).length : Nat) : Int) ≤ (noteLen m2)) = true
          have h12 := bh12
          have h12 := of_decide_eq_true h12
          refine OPC (CALL 9 #[vi 1] (some 34) ?_ [] [] _ rfl (RV (vi (logMost 1))) (fun w hw => iLogMost_c w 1) (by rintro _ ⟨⟩; exact Nat.le_of_ble_eq_true rfl) ?_)
          · as_aux_lemma => kernel_rfl
          rintro ⟨⟩
          have hr13 := logMost_one
          refine RUN0 3 [] [(2, B ((logMost 1) == 19))] ?_ rfl ?_
          · as_aux_lemma => kernel_rfl
          refine ENDOPS (NEXT (RET (FIN (.bool ((logMost 1) == 19)) ?_ () ?_ [] ?_)))
          · as_aux_lemma => kernel_rfl
          · (first | rfl | (exfalso; omega) | (simp [RV, logMost_one]; done) | (simp_all [RV, logMost_one]; done))
          · rfl
        · -- decide ((((noteOf m4.1 m2).length : Nat) : Int) ≤ (noteLen m2)) = false
          have h12 := bh12
          have h12 := of_decide_eq_false h12
          refine RUN0 4 [] [(2, B false)] ?_ rfl ?_
          · as_aux_lemma => kernel_rfl
          refine ENDOPS (NEXT (RET (FIN (.bool false) ?_ () ?_ [] ?_)))
          · as_aux_lemma => kernel_rfl
          · (first | rfl | (exfalso; omega) | (simp [RV, logMost_one]; done) | (simp_all [RV, logMost_one]; done))
          · rfl
      · -- decide ((noteLen m2) ≤ (logMost 1)) = false
        have h10 := bh10
        have h10 := of_decide_eq_false h10
        refine RUN0 12 [] [(2, B false)] ?_ rfl ?_
        · as_aux_lemma => kernel_rfl
        refine ENDOPS (NEXT (RET (FIN (.bool false) ?_ () ?_ [] ?_)))
        · as_aux_lemma => kernel_rfl
        · (first | rfl | (exfalso; omega) | (simp [RV, logMost_one]; done) | (simp_all [RV, logMost_one]; done))
        · rfl

end SX
end Go.Proofs.Ytpdijcbgdalphaa
