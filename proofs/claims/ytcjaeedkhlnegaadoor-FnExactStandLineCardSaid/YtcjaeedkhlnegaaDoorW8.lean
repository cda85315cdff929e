/- Walks, printed by program. -/
import Derived.Test.YtcjaeedkhlnegaaDoorMdl3
import Derived.Test.YtcjaeedkhlnegaaDoorShelf
namespace Go.Proofs.YtcjaeedkhlnegaaDoor
namespace SX
open Go Go.RowKit
set_option linter.unusedVariables false
set_option linter.unusedSimpArgs false
set_option maxRecDepth 10000
theorem itoa_c (W : World) (n : Int) (hn : i64R n) (htab : Tab Tryd.prog W) : Spec Tryd.prog W [] 9 #[vi n] (RV (.string (bs (Lib.itoa n)))) := Spec.grow (Tryd.strconv_Itoa n hn.1 hn.2 W htab)

theorem iDigits_c (W : World) (n : Int) (hn : i64R n) (htab : Tab Tryd.prog W) : Spec Tryd.prog W [] 8 #[vi n] (RV (.string (bs (Lib.itoa n)))) := by
  refine ENTER0 (N := 5) (vs := [vi n]) Tryd.func8 rfl rfl (Nat.le_of_ble_eq_true rfl) ?_
  refine SEQ (REGION [0] rfl (RUN0 1 [] [(0, I n)] ?_ rfl ?_))
  · as_aux_lemma => kernel_rfl
  refine ENDOPS (NEXT (SEQ (REGION [0, 1, 2] rfl (RUN0 1 [1, 2] [(3, I n)] ?_ rfl ?_))))
  · as_aux_lemma => kernel_rfl
  refine OPC (CALL 9 #[vi n] (some 4) ?_ [] [] _ rfl (RV (.string (bs (Lib.itoa n)))) (fun w hw => itoa_c w n (by first | assumption | exact wr_range _ | (unfold i64R at *; omega) | (simp only [i64R] at *; omega)) (htab.fr hw.fr)) (by rintro _ ⟨⟩; exact Nat.le_of_ble_eq_true rfl) ?_)
  · as_aux_lemma => kernel_rfl
  rintro ⟨⟩
  have hr1 := itoa_len (n := n) (by first | assumption | exact wr_range _ | (unfold i64R at *; omega) | (simp only [i64R] at *; omega))
  refine RUN0 1 [] [(2, .v (.string (bs (Lib.itoa n))))] ?_ rfl ?_
  · as_aux_lemma => kernel_rfl
  refine ENDOPS (NEXT (RET (FIN (.string (bs (Lib.itoa n))) ?_ () ?_ [] ?_)))
  · as_aux_lemma => kernel_rfl
  · simp [RV]
  · rfl

theorem sDigits_c (W : World) (n : Int) (hn : i64R n) : Spec Tryd.prog W [] 7 #[vi n] (RV (.string (bs (Lib.itoa n)))) := by
  refine ENTER0 (N := 31) (vs := [vi n]) Tryd.func7 rfl rfl (Nat.le_of_ble_eq_true rfl) ?_
  refine SEQ (REGION [0] rfl (RUN0 1 [] [(0, I n)] ?_ rfl ?_))
  · as_aux_lemma => kernel_rfl
  refine ENDOPS (NEXT (SEQ (SEQ (REGION [0, 1] rfl (RUN0 2 [] [(0, I n), (7, B (n == 0))] ?_ rfl ?_)))))
  · as_aux_lemma => kernel_rfl
  refine ENDOPS (NEXT (IF (n == 0) ?_ (fun bh1 => ?_) (fun bh1 => ?_)))
  · as_aux_lemma => kernel_rfl
  · -- n == 0 = true
    have h1 := bh1
    have h1 := eq_of_beq h1
    refine SEQ (REGION [0] rfl (RUN0 1 [] [(2, .v (.string (bs ([48]))))] ?_ rfl ?_))
    · as_aux_lemma => kernel_rfl
    refine ENDOPS (NEXT (RET (PASS trivial (FIN (.string (bs ([48]))) ?_ () ?_ [] ?_))))
    · as_aux_lemma => kernel_rfl
    · (show Value.string _ = Value.string (bs (Lib.itoa n)); congr 2; first | (subst_vars; exact itoa_zero.symm) | (rw [itoa_of (by assumption), ← hv]; simp_all [ddz]))
    · rfl
  · -- n == 0 = false
    have h1 := bh1
    have h1 := ne_of_beq_false h1
    refine SKIP (NEXT (SEQ (REGION [0, 1, 2] rfl (RUN0 3 [] [(0, I n), (3, B (decide (n < 0)))] ?_ rfl ?_))))
    · as_aux_lemma => kernel_rfl
    refine ENDOPS (NEXT (SEQ (REGION [0] rfl (RUN0 1 [] [(0, I n), (3, B (decide (n < 0))), (4, .v (.string (bs ([]))))] ?_ rfl ?_))))
    · as_aux_lemma => kernel_rfl
    refine ENDOPS (NEXT (SEQ (BLOCK (LOOP (ι := Int × (List UInt8)) (fun j => [(0, I j.1), (3, B (decide (n < 0))), (4, .v (.string (bs j.2)))]) (fun j => []) (fun j => []) (fun j => i64R j.1 ∧ ddz j.1.natAbs ++ j.2 = ddz n.natAbs) (fun j => j.1.natAbs) (n, []) [0, 3, 4] ⟨hn, by simp⟩ ?_ rfl rfl ?_))))
    · as_aux_lemma => kernel_rfl
    rintro ⟨m, out⟩ ⟨hm, hv⟩
    dsimp only at hm hv
    have hol : out.length ≤ 20 := by have h1 := congrArg List.length hv; have h2 := dec_len (u := n.natAbs) (by unfold i64R at hn; omega); simp only [List.length_append] at h1; omega
    refine SEQ (SEQ (REGION [0, 1] rfl (RUN0 2 [] [(0, I m), (3, B (decide (n < 0))), (4, .v (.string (bs out))), (11, B (m != 0))] ?_ rfl ?_)))
    · as_aux_lemma => kernel_rfl
    refine ENDOPS (NEXT (IF (m != 0) ?_ (fun bh2 => ?_) (fun bh2 => ?_)))
    · as_aux_lemma => kernel_rfl
    · -- m != 0 = true
      have h2 := bh2
      have h2 := bne_iff_ne.1 h2
      refine SKIP (NEXT (BLOCK (SEQ (REGION [0, 1, 2] rfl (RUN0 3 [] [(0, I m), (3, B (decide (n < 0))), (4, .v (.string (bs out))), (5, I (Int.tmod m 10))] ?_ rfl ?_)))))
      · as_aux_lemma => kernel_rfl
      refine ENDOPS (NEXT (SEQ (SEQ (REGION [0, 1] rfl (RUN0 2 [] [(0, I m), (3, B (decide (n < 0))), (4, .v (.string (bs out))), (5, I (Int.tmod m 10)), (15, B (decide ((Int.tmod m 10) < 0)))] ?_ rfl ?_)))))
      · as_aux_lemma => kernel_rfl
      refine ENDOPS (NEXT (IF (decide ((Int.tmod m 10) < 0)) ?_ (fun bh3 => ?_) (fun bh3 => ?_)))
      · as_aux_lemma => kernel_rfl
      · -- decide ((Int.tmod m 10) < 0) = true
        have h3 := bh3
        have h3 := of_decide_eq_true h3
        refine REGION [0, 1, 2] rfl (RUN0 3 [] [(0, I m), (3, B (decide (n < 0))), (4, .v (.string (bs out))), (5, I (wr (0 - (Int.tmod m 10))))] ?_ rfl ?_)
        · as_aux_lemma => kernel_rfl
        refine ENDOPS (NEXT (SEQ (REGION [0, 1, 2, 3, 4, 5, 6, 7] rfl (RUN0 3 [3, 4, 5, 6, 7] [(0, I m), (3, B (decide (n < 0))), (4, .v (.string (bs out))), (20, .v (.int .u8 (IntKind.wrap .u8 (wr (48 + (wr (0 - (Int.tmod m 10))))))))] ?_ rfl ?_))))
        · as_aux_lemma => kernel_rfl
        refine CAST (d := 20) (.int .u8 (IntKind.wrap .u8 (wr (48 + (wr (0 - (Int.tmod m 10))))))) (.int .u8 (((byteOf (wr (48 + (wr (0 - (Int.tmod m 10)))))).toNat : Nat) : Int)) ?_ (v8 (wr (48 + (wr (0 - (Int.tmod m 10)))))) ?_
        · as_aux_lemma => kernel_rfl
        refine OPC (BUILDS 30 1 #[(0, .tmp 20)] 21 30 ?_ (Nat.le_of_ble_eq_true rfl) 5 [.int .u8 (((byteOf (wr (48 + (wr (0 - (Int.tmod m 10)))))).toNat : Nat) : Int)] ?_ byteL [byteOf (wr (48 + (wr (0 - (Int.tmod m 10)))))] rfl (by simp only [maxLen]; omega) [] [] _ rfl (flatRep rfl) (fun a4 ha5 => ?_))
        · as_aux_lemma => kernel_rfl
        · as_aux_lemma => kernel_rfl
        refine FACT (1 = ([byteOf (wr (48 + (wr (0 - (Int.tmod m 10)))))]).length) (fun w hw => (SlO.lenE (hw.own 0 rfl)).1) (fun hln6 => ?_)
        refine OPC (RUNV (.convert 30 9 (.tmp 21)) 22 9 ?_ (Nat.le_of_ble_eq_true rfl) (.string (bs ([byteOf (wr (48 + (wr (0 - (Int.tmod m 10)))))]))) (runs_bstr (a := a4) (n := 1) (c := 1) (xs := [byteOf (wr (48 + (wr (0 - (Int.tmod m 10)))))]) (e := 5) ?_ ?_ ?_ ?_ hln6.symm (fun w hw => (Rd.own (hw.own 0 rfl)))) ?_)
        · as_aux_lemma => kernel_rfl
        · as_aux_lemma => kernel_rfl
        · as_aux_lemma => kernel_rfl
        · as_aux_lemma => kernel_rfl
        · as_aux_lemma => kernel_rfl
        refine RUN0 1 [6, 7] [(0, I m), (3, B (decide (n < 0))), (22, .v (.string (bs ([byteOf (wr (48 + (wr (0 - (Int.tmod m 10)))))])))), (23, .v (.string (bs out)))] ?_ rfl ?_
        · as_aux_lemma => kernel_rfl
        refine OPC (RUNV (.binOp .add 9 (.tmp 22) (.tmp 23) 9) 24 9 ?_ (Nat.le_of_ble_eq_true rfl) (.string (bs (([byteOf (wr (48 + (wr (0 - (Int.tmod m 10)))))]) ++ out))) (runs_scat (a := [byteOf (wr (48 + (wr (0 - (Int.tmod m 10)))))]) (b := out) ?_ ?_ (by first | omega | (simp only [List.length_append, List.length_cons, List.length_nil, List.length_take, List.length_drop] at *; omega))) ?_)
        · as_aux_lemma => kernel_rfl
        · as_aux_lemma => kernel_rfl
        · as_aux_lemma => kernel_rfl
        refine RUN0 1 [] [(0, I m), (3, B (decide (n < 0))), (4, .v (.string (bs (([byteOf (wr (48 + (wr (0 - (Int.tmod m 10)))))]) ++ out))))] ?_ rfl ?_
        · as_aux_lemma => kernel_rfl
        refine ENDOPS (NEXT (REGION [0, 1, 2] rfl (RUN0 3 [] [(0, I (wr (Int.tdiv m 10))), (3, B (decide (n < 0))), (4, .v (.string (bs (([byteOf (wr (48 + (wr (0 - (Int.tmod m 10)))))]) ++ out))))] ?_ rfl ?_)))
        · as_aux_lemma => kernel_rfl
        refine ENDOPS (OUTN (BACK (wr (Int.tdiv m 10), ([byteOf (wr (48 + (wr (0 - (Int.tmod m 10)))))]) ++ out) [0, 3, 4] 0 [] _ ⟨(quo10 hm).1, by rw [← hv, (quo10 hm).2, ddz_step (u := m.natAbs) (by omega)]; first | (rw [dig_pos hm (by assumption)]; simp) | (rw [dig_neg hm (by assumption)]; simp)⟩ (by have := (quo10 hm).2; dsimp only; omega) ?_ rfl rfl rfl))
        · as_aux_lemma => kernel_rfl
      · -- decide ((Int.tmod m 10) < 0) = false
        have h3 := bh3
        have h3 := of_decide_eq_false h3
        refine SKIP (NEXT (SEQ (REGION [0, 1, 2, 3, 4, 5, 6, 7] rfl (RUN0 3 [3, 4, 5, 6, 7] [(0, I m), (3, B (decide (n < 0))), (4, .v (.string (bs out))), (20, .v (.int .u8 (IntKind.wrap .u8 (wr (48 + (Int.tmod m 10))))))] ?_ rfl ?_))))
        · as_aux_lemma => kernel_rfl
        refine CAST (d := 20) (.int .u8 (IntKind.wrap .u8 (wr (48 + (Int.tmod m 10))))) (.int .u8 (((byteOf (wr (48 + (Int.tmod m 10)))).toNat : Nat) : Int)) ?_ (v8 (wr (48 + (Int.tmod m 10)))) ?_
        · as_aux_lemma => kernel_rfl
        refine OPC (BUILDS 30 1 #[(0, .tmp 20)] 21 30 ?_ (Nat.le_of_ble_eq_true rfl) 5 [.int .u8 (((byteOf (wr (48 + (Int.tmod m 10)))).toNat : Nat) : Int)] ?_ byteL [byteOf (wr (48 + (Int.tmod m 10)))] rfl (by simp only [maxLen]; omega) [] [] _ rfl (flatRep rfl) (fun a7 ha8 => ?_))
        · as_aux_lemma => kernel_rfl
        · as_aux_lemma => kernel_rfl
        refine FACT (1 = ([byteOf (wr (48 + (Int.tmod m 10)))]).length) (fun w hw => (SlO.lenE (hw.own 0 rfl)).1) (fun hln9 => ?_)
        refine OPC (RUNV (.convert 30 9 (.tmp 21)) 22 9 ?_ (Nat.le_of_ble_eq_true rfl) (.string (bs ([byteOf (wr (48 + (Int.tmod m 10)))]))) (runs_bstr (a := a7) (n := 1) (c := 1) (xs := [byteOf (wr (48 + (Int.tmod m 10)))]) (e := 5) ?_ ?_ ?_ ?_ hln9.symm (fun w hw => (Rd.own (hw.own 0 rfl)))) ?_)
        · as_aux_lemma => kernel_rfl
        · as_aux_lemma => kernel_rfl
        · as_aux_lemma => kernel_rfl
        · as_aux_lemma => kernel_rfl
        · as_aux_lemma => kernel_rfl
        refine RUN0 1 [6, 7] [(0, I m), (3, B (decide (n < 0))), (22, .v (.string (bs ([byteOf (wr (48 + (Int.tmod m 10)))])))), (23, .v (.string (bs out)))] ?_ rfl ?_
        · as_aux_lemma => kernel_rfl
        refine OPC (RUNV (.binOp .add 9 (.tmp 22) (.tmp 23) 9) 24 9 ?_ (Nat.le_of_ble_eq_true rfl) (.string (bs (([byteOf (wr (48 + (Int.tmod m 10)))]) ++ out))) (runs_scat (a := [byteOf (wr (48 + (Int.tmod m 10)))]) (b := out) ?_ ?_ (by first | omega | (simp only [List.length_append, List.length_cons, List.length_nil, List.length_take, List.length_drop] at *; omega))) ?_)
        · as_aux_lemma => kernel_rfl
        · as_aux_lemma => kernel_rfl
        · as_aux_lemma => kernel_rfl
        refine RUN0 1 [] [(0, I m), (3, B (decide (n < 0))), (4, .v (.string (bs (([byteOf (wr (48 + (Int.tmod m 10)))]) ++ out))))] ?_ rfl ?_
        · as_aux_lemma => kernel_rfl
        refine ENDOPS (NEXT (REGION [0, 1, 2] rfl (RUN0 3 [] [(0, I (wr (Int.tdiv m 10))), (3, B (decide (n < 0))), (4, .v (.string (bs (([byteOf (wr (48 + (Int.tmod m 10)))]) ++ out))))] ?_ rfl ?_)))
        · as_aux_lemma => kernel_rfl
        refine ENDOPS (OUTN (BACK (wr (Int.tdiv m 10), ([byteOf (wr (48 + (Int.tmod m 10)))]) ++ out) [0, 3, 4] 0 [] _ ⟨(quo10 hm).1, by rw [← hv, (quo10 hm).2, ddz_step (u := m.natAbs) (by omega)]; first | (rw [dig_pos hm (by assumption)]; simp) | (rw [dig_neg hm (by assumption)]; simp)⟩ (by have := (quo10 hm).2; dsimp only; omega) ?_ rfl rfl rfl))
        · as_aux_lemma => kernel_rfl
    · -- m != 0 = false
      have h2 := bh2
      have h2 := bneF h2
      refine EXIT (PASS trivial (PASS trivial (OUT (NEXT (SEQ (SEQ (REGION [0] rfl (RUN0 1 [] [(4, .v (.string (bs out))), (27, B (decide (n < 0)))] ?_ rfl ?_))))))))
      · as_aux_lemma => kernel_rfl
      refine ENDOPS (NEXT (IF (decide (n < 0)) ?_ (fun bh10 => ?_) (fun bh10 => ?_)))
      · as_aux_lemma => kernel_rfl
      · -- decide (n < 0) = true
        have h10 := bh10
        have h10 := of_decide_eq_true h10
        refine SEQ (REGION [0, 1, 2] rfl (RUN0 1 [1, 2] [(28, .v (.string (bs out)))] ?_ rfl ?_))
        · as_aux_lemma => kernel_rfl
        refine OPC (RUNV (.binOp .add 9 (.const (.string (bs ([45])))) (.tmp 28) 9) 29 9 ?_ (Nat.le_of_ble_eq_true rfl) (.string (bs (([45]) ++ out))) (runs_scat (a := [45]) (b := out) ?_ ?_ (by first | omega | (simp only [List.length_append, List.length_cons, List.length_nil, List.length_take, List.length_drop] at *; omega))) ?_)
        · as_aux_lemma => kernel_rfl
        · as_aux_lemma => kernel_rfl
        · as_aux_lemma => kernel_rfl
        refine RUN0 1 [] [(2, .v (.string (bs (([45]) ++ out))))] ?_ rfl ?_
        · as_aux_lemma => kernel_rfl
        refine ENDOPS (NEXT (RET (PASS trivial (FIN (.string (bs (([45]) ++ out))) ?_ () ?_ [] ?_))))
        · as_aux_lemma => kernel_rfl
        · (show Value.string _ = Value.string (bs (Lib.itoa n)); congr 2; first | (subst_vars; exact itoa_zero.symm) | (rw [itoa_of (by assumption), ← hv]; simp_all [ddz]))
        · rfl
      · -- decide (n < 0) = false
        have h10 := bh10
        have h10 := of_decide_eq_false h10
        refine SKIP (NEXT (SEQ (REGION [0, 1] rfl (RUN0 2 [] [(2, .v (.string (bs out)))] ?_ rfl ?_))))
        · as_aux_lemma => kernel_rfl
        refine ENDOPS (NEXT (RET (FIN (.string (bs out)) ?_ () ?_ [] ?_)))
        · as_aux_lemma => kernel_rfl
        · (show Value.string _ = Value.string (bs (Lib.itoa n)); congr 2; first | (subst_vars; exact itoa_zero.symm) | (rw [itoa_of (by assumption), ← hv]; simp_all [ddz]))
        · rfl

theorem iStandLine_c (W : World) (s : Standing) (hr : i64R s.cabin ∧ i64R s.level ∧ i64R s.place ∧ i64R s.left ∧ i64R s.asked) (htab : Tab Tryd.prog W) : Spec Tryd.prog W [] 6 #[.agg #[vi s.state, vi s.cabin, vi s.level, vi s.place, vi s.left, vi s.asked]] (RV (.string (bs (standLine s)))) := by
  refine ENTER0 (N := 35) (vs := [.agg #[vi s.state, vi s.cabin, vi s.level, vi s.place, vi s.left, vi s.asked]]) Tryd.func6 rfl rfl (Nat.le_of_ble_eq_true rfl) ?_
  refine SEQ (REGION [0, 1] rfl (RUN 2 [] [(1, .p 0 0)] [(25, [vi s.state, vi s.cabin, vi s.level, vi s.place, vi s.left, vi s.asked])] ?_ rfl ?_))
  · as_aux_lemma => kernel_rfl
  refine ENDOPS (NEXT (SEQ (REGION [0] rfl (RUN0 1 [] [(1, .p 0 0), (3, .v (.string (bs ([63]))))] ?_ rfl ?_))))
  · as_aux_lemma => kernel_rfl
  refine ENDOPS (NEXT (SEQ (SEQ (REGION [0, 1] rfl (RUN0 2 [] [(1, .p 0 0), (3, .v (.string (bs ([63])))), (7, I s.state)] ?_ rfl ?_)))))
  · as_aux_lemma => kernel_rfl
  refine ENDOPS (NEXT (BLOCK (SEQ (REGION [0, 1] rfl (RUN0 2 [] [(1, .p 0 0), (3, .v (.string (bs ([63])))), (7, I s.state), (8, B (s.state == 1))] ?_ rfl ?_)))))
  · as_aux_lemma => kernel_rfl
  refine ENDOPS (NEXT (IF (s.state == 1) ?_ (fun bh1 => ?_) (fun bh1 => ?_)))
  · as_aux_lemma => kernel_rfl
  · -- s.state == 1 = true
    have h1 := bh1
    have h1 := eq_of_beq h1
    refine REGION [0] rfl (RUN0 1 [] [(1, .p 0 0), (3, .v (.string (bs ([119, 97, 105, 116, 115]))))] ?_ rfl ?_)
    · as_aux_lemma => kernel_rfl
    refine ENDOPS (OUTN (NEXT (SEQ (SEQ (REGION [0, 1, 2, 3, 4, 5, 6, 7, 8, 9, 10, 11, 12] rfl (RUN0 10 [10, 11, 12] [(3, .v (.string (bs ([119, 97, 105, 116, 115])))), (13, I s.cabin), (15, I s.level), (17, I s.place), (19, I s.left), (21, I s.asked)] ?_ rfl ?_))))))
    · as_aux_lemma => kernel_rfl
    refine OPC (BUILDS 29 5 #[(0, .tmp 13), (1, .tmp 15), (2, .tmp 17), (3, .tmp 19), (4, .tmp 21)] 22 29 ?_ (Nat.le_of_ble_eq_true rfl) 3 [vi s.cabin, vi s.level, vi s.place, vi s.left, vi s.asked] ?_ intL [s.cabin, s.level, s.place, s.left, s.asked] rfl (by simp only [maxLen]; omega) [] [] _ rfl (flatRep rfl) (fun a2 ha3 => ?_))
    · as_aux_lemma => kernel_rfl
    · as_aux_lemma => kernel_rfl
    refine RUN0 2 [] [(3, .v (.string (bs ([119, 97, 105, 116, 115])))), (22, .v (.slice a2 5 5)), (23, I 5), (24, I 0)] ?_ rfl ?_
    · as_aux_lemma => kernel_rfl
    refine ENDOPS (NEXT (BLOCK (LOOP (ι := Nat × (List Int) × (List UInt8)) (fun j => [(3, .v (.string (bs j.2.2))), (22, .v (.slice a2 5 5)), (23, I 5), (24, I (j.1 : Int))]) (fun j => [(25, [vi s.state, vi s.cabin, vi s.level, vi s.place, vi s.left, vi s.asked])]) (fun j => [slA 3 intL (.slice a2 5 5) ([s.cabin, s.level, s.place, s.left, s.asked])]) (fun j => j.1 + j.2.1.length = [s.cabin, s.level, s.place, s.left, s.asked].length ∧ [s.cabin, s.level, s.place, s.left, s.asked].drop j.1 = j.2.1 ∧ joinSp ([119, 97, 105, 116, 115]) [s.cabin, s.level, s.place, s.left, s.asked] = joinSp j.2.2 j.2.1 ∧ j.2.2.length ≤ 7 + 22 * j.1) (fun j => j.2.1.length) (0, [s.cabin, s.level, s.place, s.left, s.asked], [119, 97, 105, 116, 115]) [3, 22, 23, 24] ⟨by simp, rfl, rfl, by simp⟩ ?_ rfl rfl ?_)))
    · as_aux_lemma => kernel_rfl
    rintro ⟨k, ys, out⟩ ⟨hk, hd, hv0, hv1⟩
    dsimp only at hk hd hv0 hv1
    have h5 : ([s.cabin, s.level, s.place, s.left, s.asked]).length = 5 := rfl
    refine SEQ (REGION [0] rfl (RUN0 1 [] [(3, .v (.string (bs out))), (22, .v (.slice a2 5 5)), (23, I 5), (24, I (k : Int)), (25, B (decide ((k : Int) < 5)))] ?_ rfl ?_))
    · as_aux_lemma => kernel_rfl
    refine ENDOPS (NEXT (SEQ (IF (decide ((k : Int) < 5)) ?_ (fun bh4 => ?_) (fun bh4 => ?_))))
    · as_aux_lemma => kernel_rfl
    · -- decide ((k : Int) < 5) = true
      have h4 := bh4
      have h4 := of_decide_eq_true h4
      obtain ⟨y5, ys6, rfl, hx_y5, hd_y5, hl_y5⟩ := drop_cons hd hk (by omega)
      have hr_y5 : i64R y5 := by (have := List.mem_of_getElem? hx_y5; obtain ⟨h1, h2, h3, h4, h5⟩ := hr; simp only [List.mem_cons, List.not_mem_nil, or_false] at this; rcases this with rfl | rfl | rfl | rfl | rfl <;> assumption)
      refine SKIP (NEXT (SEQ (BLOCK (SEQ (REGION [0, 1, 2] rfl (OPC (INDEX 29 (.tmp 22) (.tmp 24) 26 0 ?_ (Nat.le_of_ble_eq_true rfl) a2 5 5 .i64 (k : Int) 3 1 ?_ ?_ ?_ ?_ ha3 (by omega) (by omega) ?_)))))))
      · as_aux_lemma => kernel_rfl
      · as_aux_lemma => kernel_rfl
      · as_aux_lemma => kernel_rfl
      · as_aux_lemma => kernel_rfl
      · as_aux_lemma => kernel_rfl
      refine OPC (LOADE 3 (.tmp 26) 27 3 ?_ (Nat.le_of_ble_eq_true rfl) a2 (k * 1) 0 [vi y5] (vi y5) ?_ (fun w hw => (Rd.own (hw.own 0 rfl)).flat hx_y5) ?_ ?_)
      · as_aux_lemma => kernel_rfl
      · as_aux_lemma => kernel_rfl
      · as_aux_lemma => kernel_rfl
      refine RUN0 1 [] [(3, .v (.string (bs out))), (5, I y5), (22, .v (.slice a2 5 5)), (23, I 5), (24, I (k : Int))] ?_ rfl ?_
      · as_aux_lemma => kernel_rfl
      refine ENDOPS (NEXT (REGION [0, 1, 2, 3, 4, 5] rfl (RUN0 2 [2, 3, 4, 5] [(22, .v (.slice a2 5 5)), (23, I 5), (24, I (k : Int)), (28, .v (.string (bs out))), (29, I y5)] ?_ rfl ?_)))
      · as_aux_lemma => kernel_rfl
      refine OPC (CALL 8 #[vi y5] (some 30) ?_ [] [] _ rfl (RV (.string (bs (Lib.itoa y5)))) (fun w hw => iDigits_c w y5 (by first | assumption | exact wr_range _ | (unfold i64R at *; omega) | (simp only [i64R] at *; omega)) (htab.fr hw.fr)) (by rintro _ ⟨⟩; exact Nat.le_of_ble_eq_true rfl) ?_)
      · as_aux_lemma => kernel_rfl
      rintro ⟨⟩
      have hr7 := itoa_len (n := y5) (by first | assumption | exact wr_range _ | (unfold i64R at *; omega) | (simp only [i64R] at *; omega))
      refine OPC (RUNV (.binOp .add 9 (.const (.string (bs ([32])))) (.tmp 30) 9) 31 9 ?_ (Nat.le_of_ble_eq_true rfl) (.string (bs (([32]) ++ (Lib.itoa y5)))) (runs_scat (a := [32]) (b := Lib.itoa y5) ?_ ?_ (by first | omega | (simp only [List.length_append, List.length_cons, List.length_nil, List.length_take, List.length_drop] at *; omega))) ?_)
      · as_aux_lemma => kernel_rfl
      · as_aux_lemma => kernel_rfl
      · as_aux_lemma => kernel_rfl
      refine OPC (RUNV (.binOp .add 9 (.tmp 28) (.tmp 31) 9) 32 9 ?_ (Nat.le_of_ble_eq_true rfl) (.string (bs (out ++ (([32]) ++ (Lib.itoa y5))))) (runs_scat (a := out) (b := ([32]) ++ (Lib.itoa y5)) ?_ ?_ (by first | omega | (simp only [List.length_append, List.length_cons, List.length_nil, List.length_take, List.length_drop] at *; omega))) ?_)
      · as_aux_lemma => kernel_rfl
      · as_aux_lemma => kernel_rfl
      · as_aux_lemma => kernel_rfl
      refine RUN0 1 [] [(3, .v (.string (bs (out ++ (([32]) ++ (Lib.itoa y5)))))), (22, .v (.slice a2 5 5)), (23, I 5), (24, I (k : Int))] ?_ rfl ?_
      · as_aux_lemma => kernel_rfl
      refine ENDOPS (OUTN (NEXT (REGION [0, 1] rfl (RUN0 1 [1] [(3, .v (.string (bs (out ++ (([32]) ++ (Lib.itoa y5)))))), (22, .v (.slice a2 5 5)), (23, I 5), (33, I (wr ((k : Int) + 1)))] ?_ rfl ?_))))
      · as_aux_lemma => kernel_rfl
      refine CAST (d := 33) (vi (wr ((k : Int) + 1))) (vi ((k + 1 : Nat) : Int)) ?_ (vi_cast (by omega) (by omega)) ?_
      · as_aux_lemma => kernel_rfl
      refine RUN0 1 [] [(3, .v (.string (bs (out ++ (([32]) ++ (Lib.itoa y5)))))), (22, .v (.slice a2 5 5)), (23, I 5), (24, I ((k + 1 : Nat) : Int))] ?_ rfl ?_
      · as_aux_lemma => kernel_rfl
      refine ENDOPS (BACK (k + 1, ys6, out ++ (([32]) ++ (Lib.itoa y5))) [3, 22, 23, 24] 1 [0] _ ⟨hl_y5, hd_y5, hv0.trans (by simp [joinSp]), (by simp only [List.length_append, List.length_cons, List.length_nil]; omega)⟩ (by simp) ?_ rfl rfl rfl)
      · as_aux_lemma => kernel_rfl
    · -- decide ((k : Int) < 5) = false
      have h4 := bh4
      have h4 := of_decide_eq_false h4
      obtain rfl := drop_nil hk (by omega)
      refine EXIT (PASS trivial (PASS trivial (OUT (NEXT (SEQ (REGION [0, 1] rfl (RUN0 2 [] [(2, .v (.string (bs out)))] ?_ rfl ?_)))))))
      · as_aux_lemma => kernel_rfl
      refine ENDOPS (NEXT (RET (FIN (.string (bs out)) ?_ () ?_ [] ?_)))
      · as_aux_lemma => kernel_rfl
      · (simp_all [RV, standLine, standWord, joinSp])
      · rfl
  · -- s.state == 1 = false
    have h1 := bh1
    have h1 := ne_of_beq_false h1
    refine SEQ (REGION [0, 1] rfl (RUN0 2 [] [(1, .p 0 0), (3, .v (.string (bs ([63])))), (10, B (s.state == 2))] ?_ rfl ?_))
    · as_aux_lemma => kernel_rfl
    refine ENDOPS (NEXT (IF (s.state == 2) ?_ (fun bh8 => ?_) (fun bh8 => ?_)))
    · as_aux_lemma => kernel_rfl
    · -- s.state == 2 = true
      have h8 := bh8
      have h8 := eq_of_beq h8
      refine REGION [0] rfl (RUN0 1 [] [(1, .p 0 0), (3, .v (.string (bs ([111, 102, 102, 101, 114, 101, 100]))))] ?_ rfl ?_)
      · as_aux_lemma => kernel_rfl
      refine ENDOPS (OUTN (NEXT (SEQ (SEQ (REGION [0, 1, 2, 3, 4, 5, 6, 7, 8, 9, 10, 11, 12] rfl (RUN0 10 [10, 11, 12] [(3, .v (.string (bs ([111, 102, 102, 101, 114, 101, 100])))), (13, I s.cabin), (15, I s.level), (17, I s.place), (19, I s.left), (21, I s.asked)] ?_ rfl ?_))))))
      · as_aux_lemma => kernel_rfl
      refine OPC (BUILDS 29 5 #[(0, .tmp 13), (1, .tmp 15), (2, .tmp 17), (3, .tmp 19), (4, .tmp 21)] 22 29 ?_ (Nat.le_of_ble_eq_true rfl) 3 [vi s.cabin, vi s.level, vi s.place, vi s.left, vi s.asked] ?_ intL [s.cabin, s.level, s.place, s.left, s.asked] rfl (by simp only [maxLen]; omega) [] [] _ rfl (flatRep rfl) (fun a9 ha10 => ?_))
      · as_aux_lemma => kernel_rfl
      · as_aux_lemma => kernel_rfl
      refine RUN0 2 [] [(3, .v (.string (bs ([111, 102, 102, 101, 114, 101, 100])))), (22, .v (.slice a9 5 5)), (23, I 5), (24, I 0)] ?_ rfl ?_
      · as_aux_lemma => kernel_rfl
      refine ENDOPS (NEXT (BLOCK (LOOP (ι := Nat × (List Int) × (List UInt8)) (fun j => [(3, .v (.string (bs j.2.2))), (22, .v (.slice a9 5 5)), (23, I 5), (24, I (j.1 : Int))]) (fun j => [(25, [vi s.state, vi s.cabin, vi s.level, vi s.place, vi s.left, vi s.asked])]) (fun j => [slA 3 intL (.slice a9 5 5) ([s.cabin, s.level, s.place, s.left, s.asked])]) (fun j => j.1 + j.2.1.length = [s.cabin, s.level, s.place, s.left, s.asked].length ∧ [s.cabin, s.level, s.place, s.left, s.asked].drop j.1 = j.2.1 ∧ joinSp ([111, 102, 102, 101, 114, 101, 100]) [s.cabin, s.level, s.place, s.left, s.asked] = joinSp j.2.2 j.2.1 ∧ j.2.2.length ≤ 7 + 22 * j.1) (fun j => j.2.1.length) (0, [s.cabin, s.level, s.place, s.left, s.asked], [111, 102, 102, 101, 114, 101, 100]) [3, 22, 23, 24] ⟨by simp, rfl, rfl, by simp⟩ ?_ rfl rfl ?_)))
      · as_aux_lemma => kernel_rfl
      rintro ⟨k, ys, out⟩ ⟨hk, hd, hv0, hv1⟩
      dsimp only at hk hd hv0 hv1
      have h5 : ([s.cabin, s.level, s.place, s.left, s.asked]).length = 5 := rfl
      refine SEQ (REGION [0] rfl (RUN0 1 [] [(3, .v (.string (bs out))), (22, .v (.slice a9 5 5)), (23, I 5), (24, I (k : Int)), (25, B (decide ((k : Int) < 5)))] ?_ rfl ?_))
      · as_aux_lemma => kernel_rfl
      refine ENDOPS (NEXT (SEQ (IF (decide ((k : Int) < 5)) ?_ (fun bh11 => ?_) (fun bh11 => ?_))))
      · as_aux_lemma => kernel_rfl
      · -- decide ((k : Int) < 5) = true
        have h11 := bh11
        have h11 := of_decide_eq_true h11
        obtain ⟨y12, ys13, rfl, hx_y12, hd_y12, hl_y12⟩ := drop_cons hd hk (by omega)
        have hr_y12 : i64R y12 := by (have := List.mem_of_getElem? hx_y12; obtain ⟨h1, h2, h3, h4, h5⟩ := hr; simp only [List.mem_cons, List.not_mem_nil, or_false] at this; rcases this with rfl | rfl | rfl | rfl | rfl <;> assumption)
        refine SKIP (NEXT (SEQ (BLOCK (SEQ (REGION [0, 1, 2] rfl (OPC (INDEX 29 (.tmp 22) (.tmp 24) 26 0 ?_ (Nat.le_of_ble_eq_true rfl) a9 5 5 .i64 (k : Int) 3 1 ?_ ?_ ?_ ?_ ha10 (by omega) (by omega) ?_)))))))
        · as_aux_lemma => kernel_rfl
        · as_aux_lemma => kernel_rfl
        · as_aux_lemma => kernel_rfl
        · as_aux_lemma => kernel_rfl
        · as_aux_lemma => kernel_rfl
        refine OPC (LOADE 3 (.tmp 26) 27 3 ?_ (Nat.le_of_ble_eq_true rfl) a9 (k * 1) 0 [vi y12] (vi y12) ?_ (fun w hw => (Rd.own (hw.own 0 rfl)).flat hx_y12) ?_ ?_)
        · as_aux_lemma => kernel_rfl
        · as_aux_lemma => kernel_rfl
        · as_aux_lemma => kernel_rfl
        refine RUN0 1 [] [(3, .v (.string (bs out))), (5, I y12), (22, .v (.slice a9 5 5)), (23, I 5), (24, I (k : Int))] ?_ rfl ?_
        · as_aux_lemma => kernel_rfl
        refine ENDOPS (NEXT (REGION [0, 1, 2, 3, 4, 5] rfl (RUN0 2 [2, 3, 4, 5] [(22, .v (.slice a9 5 5)), (23, I 5), (24, I (k : Int)), (28, .v (.string (bs out))), (29, I y12)] ?_ rfl ?_)))
        · as_aux_lemma => kernel_rfl
        refine OPC (CALL 8 #[vi y12] (some 30) ?_ [] [] _ rfl (RV (.string (bs (Lib.itoa y12)))) (fun w hw => iDigits_c w y12 (by first | assumption | exact wr_range _ | (unfold i64R at *; omega) | (simp only [i64R] at *; omega)) (htab.fr hw.fr)) (by rintro _ ⟨⟩; exact Nat.le_of_ble_eq_true rfl) ?_)
        · as_aux_lemma => kernel_rfl
        rintro ⟨⟩
        have hr14 := itoa_len (n := y12) (by first | assumption | exact wr_range _ | (unfold i64R at *; omega) | (simp only [i64R] at *; omega))
        refine OPC (RUNV (.binOp .add 9 (.const (.string (bs ([32])))) (.tmp 30) 9) 31 9 ?_ (Nat.le_of_ble_eq_true rfl) (.string (bs (([32]) ++ (Lib.itoa y12)))) (runs_scat (a := [32]) (b := Lib.itoa y12) ?_ ?_ (by first | omega | (simp only [List.length_append, List.length_cons, List.length_nil, List.length_take, List.length_drop] at *; omega))) ?_)
        · as_aux_lemma => kernel_rfl
        · as_aux_lemma => kernel_rfl
        · as_aux_lemma => kernel_rfl
        refine OPC (RUNV (.binOp .add 9 (.tmp 28) (.tmp 31) 9) 32 9 ?_ (Nat.le_of_ble_eq_true rfl) (.string (bs (out ++ (([32]) ++ (Lib.itoa y12))))) (runs_scat (a := out) (b := ([32]) ++ (Lib.itoa y12)) ?_ ?_ (by first | omega | (simp only [List.length_append, List.length_cons, List.length_nil, List.length_take, List.length_drop] at *; omega))) ?_)
        · as_aux_lemma => kernel_rfl
        · as_aux_lemma => kernel_rfl
        · as_aux_lemma => kernel_rfl
        refine RUN0 1 [] [(3, .v (.string (bs (out ++ (([32]) ++ (Lib.itoa y12)))))), (22, .v (.slice a9 5 5)), (23, I 5), (24, I (k : Int))] ?_ rfl ?_
        · as_aux_lemma => kernel_rfl
        refine ENDOPS (OUTN (NEXT (REGION [0, 1] rfl (RUN0 1 [1] [(3, .v (.string (bs (out ++ (([32]) ++ (Lib.itoa y12)))))), (22, .v (.slice a9 5 5)), (23, I 5), (33, I (wr ((k : Int) + 1)))] ?_ rfl ?_))))
        · as_aux_lemma => kernel_rfl
        refine CAST (d := 33) (vi (wr ((k : Int) + 1))) (vi ((k + 1 : Nat) : Int)) ?_ (vi_cast (by omega) (by omega)) ?_
        · as_aux_lemma => kernel_rfl
        refine RUN0 1 [] [(3, .v (.string (bs (out ++ (([32]) ++ (Lib.itoa y12)))))), (22, .v (.slice a9 5 5)), (23, I 5), (24, I ((k + 1 : Nat) : Int))] ?_ rfl ?_
        · as_aux_lemma => kernel_rfl
        refine ENDOPS (BACK (k + 1, ys13, out ++ (([32]) ++ (Lib.itoa y12))) [3, 22, 23, 24] 1 [0] _ ⟨hl_y12, hd_y12, hv0.trans (by simp [joinSp]), (by simp only [List.length_append, List.length_cons, List.length_nil]; omega)⟩ (by simp) ?_ rfl rfl rfl)
        · as_aux_lemma => kernel_rfl
      · -- decide ((k : Int) < 5) = false
        have h11 := bh11
        have h11 := of_decide_eq_false h11
        obtain rfl := drop_nil hk (by omega)
        refine EXIT (PASS trivial (PASS trivial (OUT (NEXT (SEQ (REGION [0, 1] rfl (RUN0 2 [] [(2, .v (.string (bs out)))] ?_ rfl ?_)))))))
        · as_aux_lemma => kernel_rfl
        refine ENDOPS (NEXT (RET (FIN (.string (bs out)) ?_ () ?_ [] ?_)))
        · as_aux_lemma => kernel_rfl
        · (simp_all [RV, standLine, standWord, joinSp])
        · rfl
    · -- s.state == 2 = false
      have h8 := bh8
      have h8 := ne_of_beq_false h8
      refine SKIP (OUTN (NEXT (SEQ (SEQ (REGION [0, 1, 2, 3, 4, 5, 6, 7, 8, 9, 10, 11, 12] rfl (RUN0 10 [10, 11, 12] [(3, .v (.string (bs ([63])))), (13, I s.cabin), (15, I s.level), (17, I s.place), (19, I s.left), (21, I s.asked)] ?_ rfl ?_))))))
      · as_aux_lemma => kernel_rfl
      refine OPC (BUILDS 29 5 #[(0, .tmp 13), (1, .tmp 15), (2, .tmp 17), (3, .tmp 19), (4, .tmp 21)] 22 29 ?_ (Nat.le_of_ble_eq_true rfl) 3 [vi s.cabin, vi s.level, vi s.place, vi s.left, vi s.asked] ?_ intL [s.cabin, s.level, s.place, s.left, s.asked] rfl (by simp only [maxLen]; omega) [] [] _ rfl (flatRep rfl) (fun a15 ha16 => ?_))
      · as_aux_lemma => kernel_rfl
      · as_aux_lemma => kernel_rfl
      refine RUN0 2 [] [(3, .v (.string (bs ([63])))), (22, .v (.slice a15 5 5)), (23, I 5), (24, I 0)] ?_ rfl ?_
      · as_aux_lemma => kernel_rfl
      refine ENDOPS (NEXT (BLOCK (LOOP (ι := Nat × (List Int) × (List UInt8)) (fun j => [(3, .v (.string (bs j.2.2))), (22, .v (.slice a15 5 5)), (23, I 5), (24, I (j.1 : Int))]) (fun j => [(25, [vi s.state, vi s.cabin, vi s.level, vi s.place, vi s.left, vi s.asked])]) (fun j => [slA 3 intL (.slice a15 5 5) ([s.cabin, s.level, s.place, s.left, s.asked])]) (fun j => j.1 + j.2.1.length = [s.cabin, s.level, s.place, s.left, s.asked].length ∧ [s.cabin, s.level, s.place, s.left, s.asked].drop j.1 = j.2.1 ∧ joinSp ([63]) [s.cabin, s.level, s.place, s.left, s.asked] = joinSp j.2.2 j.2.1 ∧ j.2.2.length ≤ 7 + 22 * j.1) (fun j => j.2.1.length) (0, [s.cabin, s.level, s.place, s.left, s.asked], [63]) [3, 22, 23, 24] ⟨by simp, rfl, rfl, by simp⟩ ?_ rfl rfl ?_)))
      · as_aux_lemma => kernel_rfl
      rintro ⟨k, ys, out⟩ ⟨hk, hd, hv0, hv1⟩
      dsimp only at hk hd hv0 hv1
      have h5 : ([s.cabin, s.level, s.place, s.left, s.asked]).length = 5 := rfl
      refine SEQ (REGION [0] rfl (RUN0 1 [] [(3, .v (.string (bs out))), (22, .v (.slice a15 5 5)), (23, I 5), (24, I (k : Int)), (25, B (decide ((k : Int) < 5)))] ?_ rfl ?_))
      · as_aux_lemma => kernel_rfl
      refine ENDOPS (NEXT (SEQ (IF (decide ((k : Int) < 5)) ?_ (fun bh17 => ?_) (fun bh17 => ?_))))
      · as_aux_lemma => kernel_rfl
      · -- decide ((k : Int) < 5) = true
        have h17 := bh17
        have h17 := of_decide_eq_true h17
        obtain ⟨y18, ys19, rfl, hx_y18, hd_y18, hl_y18⟩ := drop_cons hd hk (by omega)
        have hr_y18 : i64R y18 := by (have := List.mem_of_getElem? hx_y18; obtain ⟨h1, h2, h3, h4, h5⟩ := hr; simp only [List.mem_cons, List.not_mem_nil, or_false] at this; rcases this with rfl | rfl | rfl | rfl | rfl <;> assumption)
        refine SKIP (NEXT (SEQ (BLOCK (SEQ (REGION [0, 1, 2] rfl (OPC (INDEX 29 (.tmp 22) (.tmp 24) 26 0 ?_ (Nat.le_of_ble_eq_true rfl) a15 5 5 .i64 (k : Int) 3 1 ?_ ?_ ?_ ?_ ha16 (by omega) (by omega) ?_)))))))
        · as_aux_lemma => kernel_rfl
        · as_aux_lemma => kernel_rfl
        · as_aux_lemma => kernel_rfl
        · as_aux_lemma => kernel_rfl
        · as_aux_lemma => kernel_rfl
        refine OPC (LOADE 3 (.tmp 26) 27 3 ?_ (Nat.le_of_ble_eq_true rfl) a15 (k * 1) 0 [vi y18] (vi y18) ?_ (fun w hw => (Rd.own (hw.own 0 rfl)).flat hx_y18) ?_ ?_)
        · as_aux_lemma => kernel_rfl
        · as_aux_lemma => kernel_rfl
        · as_aux_lemma => kernel_rfl
        refine RUN0 1 [] [(3, .v (.string (bs out))), (5, I y18), (22, .v (.slice a15 5 5)), (23, I 5), (24, I (k : Int))] ?_ rfl ?_
        · as_aux_lemma => kernel_rfl
        refine ENDOPS (NEXT (REGION [0, 1, 2, 3, 4, 5] rfl (RUN0 2 [2, 3, 4, 5] [(22, .v (.slice a15 5 5)), (23, I 5), (24, I (k : Int)), (28, .v (.string (bs out))), (29, I y18)] ?_ rfl ?_)))
        · as_aux_lemma => kernel_rfl
        refine OPC (CALL 8 #[vi y18] (some 30) ?_ [] [] _ rfl (RV (.string (bs (Lib.itoa y18)))) (fun w hw => iDigits_c w y18 (by first | assumption | exact wr_range _ | (unfold i64R at *; omega) | (simp only [i64R] at *; omega)) (htab.fr hw.fr)) (by rintro _ ⟨⟩; exact Nat.le_of_ble_eq_true rfl) ?_)
        · as_aux_lemma => kernel_rfl
        rintro ⟨⟩
        have hr20 := itoa_len (n := y18) (by first | assumption | exact wr_range _ | (unfold i64R at *; omega) | (simp only [i64R] at *; omega))
        refine OPC (RUNV (.binOp .add 9 (.const (.string (bs ([32])))) (.tmp 30) 9) 31 9 ?_ (Nat.le_of_ble_eq_true rfl) (.string (bs (([32]) ++ (Lib.itoa y18)))) (runs_scat (a := [32]) (b := Lib.itoa y18) ?_ ?_ (by first | omega | (simp only [List.length_append, List.length_cons, List.length_nil, List.length_take, List.length_drop] at *; omega))) ?_)
        · as_aux_lemma => kernel_rfl
        · as_aux_lemma => kernel_rfl
        · as_aux_lemma => kernel_rfl
        refine OPC (RUNV (.binOp .add 9 (.tmp 28) (.tmp 31) 9) 32 9 ?_ (Nat.le_of_ble_eq_true rfl) (.string (bs (out ++ (([32]) ++ (Lib.itoa y18))))) (runs_scat (a := out) (b := ([32]) ++ (Lib.itoa y18)) ?_ ?_ (by first | omega | (simp only [List.length_append, List.length_cons, List.length_nil, List.length_take, List.length_drop] at *; omega))) ?_)
        · as_aux_lemma => kernel_rfl
        · as_aux_lemma => kernel_rfl
        · as_aux_lemma => kernel_rfl
        refine RUN0 1 [] [(3, .v (.string (bs (out ++ (([32]) ++ (Lib.itoa y18)))))), (22, .v (.slice a15 5 5)), (23, I 5), (24, I (k : Int))] ?_ rfl ?_
        · as_aux_lemma => kernel_rfl
        refine ENDOPS (OUTN (NEXT (REGION [0, 1] rfl (RUN0 1 [1] [(3, .v (.string (bs (out ++ (([32]) ++ (Lib.itoa y18)))))), (22, .v (.slice a15 5 5)), (23, I 5), (33, I (wr ((k : Int) + 1)))] ?_ rfl ?_))))
        · as_aux_lemma => kernel_rfl
        refine CAST (d := 33) (vi (wr ((k : Int) + 1))) (vi ((k + 1 : Nat) : Int)) ?_ (vi_cast (by omega) (by omega)) ?_
        · as_aux_lemma => kernel_rfl
        refine RUN0 1 [] [(3, .v (.string (bs (out ++ (([32]) ++ (Lib.itoa y18)))))), (22, .v (.slice a15 5 5)), (23, I 5), (24, I ((k + 1 : Nat) : Int))] ?_ rfl ?_
        · as_aux_lemma => kernel_rfl
        refine ENDOPS (BACK (k + 1, ys19, out ++ (([32]) ++ (Lib.itoa y18))) [3, 22, 23, 24] 1 [0] _ ⟨hl_y18, hd_y18, hv0.trans (by simp [joinSp]), (by simp only [List.length_append, List.length_cons, List.length_nil]; omega)⟩ (by simp) ?_ rfl rfl rfl)
        · as_aux_lemma => kernel_rfl
      · -- decide ((k : Int) < 5) = false
        have h17 := bh17
        have h17 := of_decide_eq_false h17
        obtain rfl := drop_nil hk (by omega)
        refine EXIT (PASS trivial (PASS trivial (OUT (NEXT (SEQ (REGION [0, 1] rfl (RUN0 2 [] [(2, .v (.string (bs out)))] ?_ rfl ?_)))))))
        · as_aux_lemma => kernel_rfl
        refine ENDOPS (NEXT (RET (FIN (.string (bs out)) ?_ () ?_ [] ?_)))
        · as_aux_lemma => kernel_rfl
        · (simp_all [RV, standLine, standWord, joinSp])
        · rfl

theorem sStandLine_c (W : World) (s : Standing) (hr : i64R s.cabin ∧ i64R s.level ∧ i64R s.place ∧ i64R s.left ∧ i64R s.asked) : Spec Tryd.prog W [] 4 #[.agg #[vi s.state, vi s.cabin, vi s.level, vi s.place, vi s.left, vi s.asked]] (RV (.string (bs (standLine s)))) := by
  refine ENTER0 (N := 36) (vs := [.agg #[vi s.state, vi s.cabin, vi s.level, vi s.place, vi s.left, vi s.asked]]) Tryd.func4 rfl rfl (Nat.le_of_ble_eq_true rfl) ?_
  obtain ⟨hr1, hr2, hr3, hr4, hr5⟩ := hr
  refine SEQ (REGION [0, 1] rfl (RUN 2 [] [(1, .p 0 0)] [(25, [vi s.state, vi s.cabin, vi s.level, vi s.place, vi s.left, vi s.asked])] ?_ rfl ?_))
  · as_aux_lemma => kernel_rfl
  refine ENDOPS (NEXT (SEQ (REGION [0] rfl (RUN0 1 [] [(1, .p 0 0), (3, .v (.string (bs ([63]))))] ?_ rfl ?_))))
  · as_aux_lemma => kernel_rfl
  refine ENDOPS (NEXT (SEQ (SEQ (REGION [0, 1, 2] rfl (RUN0 3 [] [(1, .p 0 0), (3, .v (.string (bs ([63])))), (6, B (s.state == 1))] ?_ rfl ?_)))))
  · as_aux_lemma => kernel_rfl
  refine ENDOPS (NEXT (IF (s.state == 1) ?_ (fun bh1 => ?_) (fun bh1 => ?_)))
  · as_aux_lemma => kernel_rfl
  · -- s.state == 1 = true
    have h1 := bh1
    have h1 := eq_of_beq h1
    refine REGION [0] rfl (RUN0 1 [] [(1, .p 0 0), (3, .v (.string (bs ([119, 97, 105, 116, 115]))))] ?_ rfl ?_)
    · as_aux_lemma => kernel_rfl
    refine ENDOPS (NEXT (SEQ (SEQ (REGION [0, 1, 2] rfl (RUN0 3 [] [(1, .p 0 0), (3, .v (.string (bs ([119, 97, 105, 116, 115])))), (9, B (s.state == 2))] ?_ rfl ?_)))))
    · as_aux_lemma => kernel_rfl
    refine ENDOPS (NEXT (IF (s.state == 2) ?_ (fun bh2 => ?_) (fun bh2 => ?_)))
    · as_aux_lemma => kernel_rfl
    · have bh2 := eq_of_beq bh2; exfalso; omega
    · -- s.state == 2 = false
      have h2 := bh2
      have h2 := ne_of_beq_false h2
      refine SKIP (NEXT (SEQ (REGIONQ ?_ ?_ ?_)))
      · as_aux_lemma => kernel_rfl
      · as_aux_lemma => kernel_rfl
      refine QRUN 1 0 1 [(1, .p 0 0), (10, .v (.string (bs ([119, 97, 105, 116, 115]))))] ?_ rfl ?_
      · as_aux_lemma => kernel_rfl
      refine QRUNV (.binOp .add 9 (.tmp 10) (.const (.string (bs ([32])))) 9) 11 9 ?_ (Nat.le_of_ble_eq_true rfl) (.string (bs (([119, 97, 105, 116, 115]) ++ ([32])))) (runs_scat (a := [119, 97, 105, 116, 115]) (b := [32]) ?_ ?_ (by first | omega | (simp only [List.length_append, List.length_cons, List.length_nil, List.length_take, List.length_drop] at *; omega))) ?_
      · as_aux_lemma => kernel_rfl
      · as_aux_lemma => kernel_rfl
      · as_aux_lemma => kernel_rfl
      refine QRUN 2 2 4 [(1, .p 0 0), (11, .v (.string (bs (([119, 97, 105, 116, 115]) ++ ([32]))))), (13, I s.cabin)] ?_ rfl ?_
      · as_aux_lemma => kernel_rfl
      have hr3 := itoa_len (n := s.cabin) (by first | assumption | exact wr_range _ | (unfold i64R at *; omega) | (simp only [i64R] at *; omega))
      refine QCALL 7 #[vi s.cabin] (some 14) ?_ (.string (bs (Lib.itoa s.cabin))) (fun w hw => sDigits_c w s.cabin (by first | assumption | exact wr_range _ | (unfold i64R at *; omega) | (simp only [i64R] at *; omega))) (by rintro _ ⟨⟩; exact Nat.le_of_ble_eq_true rfl) ?_
      · as_aux_lemma => kernel_rfl
      refine QRUNV (.binOp .add 9 (.tmp 11) (.tmp 14) 9) 15 9 ?_ (Nat.le_of_ble_eq_true rfl) (.string (bs ((([119, 97, 105, 116, 115]) ++ ([32])) ++ (Lib.itoa s.cabin)))) (runs_scat (a := ([119, 97, 105, 116, 115]) ++ ([32])) (b := Lib.itoa s.cabin) ?_ ?_ (by first | omega | (simp only [List.length_append, List.length_cons, List.length_nil, List.length_take, List.length_drop] at *; omega))) ?_
      · as_aux_lemma => kernel_rfl
      · as_aux_lemma => kernel_rfl
      · as_aux_lemma => kernel_rfl
      refine QRUNV (.binOp .add 9 (.tmp 15) (.const (.string (bs ([32])))) 9) 16 9 ?_ (Nat.le_of_ble_eq_true rfl) (.string (bs (((([119, 97, 105, 116, 115]) ++ ([32])) ++ (Lib.itoa s.cabin)) ++ ([32])))) (runs_scat (a := (([119, 97, 105, 116, 115]) ++ ([32])) ++ (Lib.itoa s.cabin)) (b := [32]) ?_ ?_ (by first | omega | (simp only [List.length_append, List.length_cons, List.length_nil, List.length_take, List.length_drop] at *; omega))) ?_
      · as_aux_lemma => kernel_rfl
      · as_aux_lemma => kernel_rfl
      · as_aux_lemma => kernel_rfl
      refine QRUN 2 7 9 [(1, .p 0 0), (16, .v (.string (bs (((([119, 97, 105, 116, 115]) ++ ([32])) ++ (Lib.itoa s.cabin)) ++ ([32]))))), (18, I s.level)] ?_ rfl ?_
      · as_aux_lemma => kernel_rfl
      have hr4 := itoa_len (n := s.level) (by first | assumption | exact wr_range _ | (unfold i64R at *; omega) | (simp only [i64R] at *; omega))
      refine QCALL 7 #[vi s.level] (some 19) ?_ (.string (bs (Lib.itoa s.level))) (fun w hw => sDigits_c w s.level (by first | assumption | exact wr_range _ | (unfold i64R at *; omega) | (simp only [i64R] at *; omega))) (by rintro _ ⟨⟩; exact Nat.le_of_ble_eq_true rfl) ?_
      · as_aux_lemma => kernel_rfl
      refine QRUNV (.binOp .add 9 (.tmp 16) (.tmp 19) 9) 20 9 ?_ (Nat.le_of_ble_eq_true rfl) (.string (bs ((((([119, 97, 105, 116, 115]) ++ ([32])) ++ (Lib.itoa s.cabin)) ++ ([32])) ++ (Lib.itoa s.level)))) (runs_scat (a := ((([119, 97, 105, 116, 115]) ++ ([32])) ++ (Lib.itoa s.cabin)) ++ ([32])) (b := Lib.itoa s.level) ?_ ?_ (by first | omega | (simp only [List.length_append, List.length_cons, List.length_nil, List.length_take, List.length_drop] at *; omega))) ?_
      · as_aux_lemma => kernel_rfl
      · as_aux_lemma => kernel_rfl
      · as_aux_lemma => kernel_rfl
      refine QRUNV (.binOp .add 9 (.tmp 20) (.const (.string (bs ([32])))) 9) 21 9 ?_ (Nat.le_of_ble_eq_true rfl) (.string (bs (((((([119, 97, 105, 116, 115]) ++ ([32])) ++ (Lib.itoa s.cabin)) ++ ([32])) ++ (Lib.itoa s.level)) ++ ([32])))) (runs_scat (a := (((([119, 97, 105, 116, 115]) ++ ([32])) ++ (Lib.itoa s.cabin)) ++ ([32])) ++ (Lib.itoa s.level)) (b := [32]) ?_ ?_ (by first | omega | (simp only [List.length_append, List.length_cons, List.length_nil, List.length_take, List.length_drop] at *; omega))) ?_
      · as_aux_lemma => kernel_rfl
      · as_aux_lemma => kernel_rfl
      · as_aux_lemma => kernel_rfl
      refine QRUN 2 12 14 [(1, .p 0 0), (21, .v (.string (bs (((((([119, 97, 105, 116, 115]) ++ ([32])) ++ (Lib.itoa s.cabin)) ++ ([32])) ++ (Lib.itoa s.level)) ++ ([32]))))), (23, I s.place)] ?_ rfl ?_
      · as_aux_lemma => kernel_rfl
      have hr5 := itoa_len (n := s.place) (by first | assumption | exact wr_range _ | (unfold i64R at *; omega) | (simp only [i64R] at *; omega))
      refine QCALL 7 #[vi s.place] (some 24) ?_ (.string (bs (Lib.itoa s.place))) (fun w hw => sDigits_c w s.place (by first | assumption | exact wr_range _ | (unfold i64R at *; omega) | (simp only [i64R] at *; omega))) (by rintro _ ⟨⟩; exact Nat.le_of_ble_eq_true rfl) ?_
      · as_aux_lemma => kernel_rfl
      refine QRUNV (.binOp .add 9 (.tmp 21) (.tmp 24) 9) 25 9 ?_ (Nat.le_of_ble_eq_true rfl) (.string (bs ((((((([119, 97, 105, 116, 115]) ++ ([32])) ++ (Lib.itoa s.cabin)) ++ ([32])) ++ (Lib.itoa s.level)) ++ ([32])) ++ (Lib.itoa s.place)))) (runs_scat (a := ((((([119, 97, 105, 116, 115]) ++ ([32])) ++ (Lib.itoa s.cabin)) ++ ([32])) ++ (Lib.itoa s.level)) ++ ([32])) (b := Lib.itoa s.place) ?_ ?_ (by first | omega | (simp only [List.length_append, List.length_cons, List.length_nil, List.length_take, List.length_drop] at *; omega))) ?_
      · as_aux_lemma => kernel_rfl
      · as_aux_lemma => kernel_rfl
      · as_aux_lemma => kernel_rfl
      refine QRUNV (.binOp .add 9 (.tmp 25) (.const (.string (bs ([32])))) 9) 26 9 ?_ (Nat.le_of_ble_eq_true rfl) (.string (bs (((((((([119, 97, 105, 116, 115]) ++ ([32])) ++ (Lib.itoa s.cabin)) ++ ([32])) ++ (Lib.itoa s.level)) ++ ([32])) ++ (Lib.itoa s.place)) ++ ([32])))) (runs_scat (a := (((((([119, 97, 105, 116, 115]) ++ ([32])) ++ (Lib.itoa s.cabin)) ++ ([32])) ++ (Lib.itoa s.level)) ++ ([32])) ++ (Lib.itoa s.place)) (b := [32]) ?_ ?_ (by first | omega | (simp only [List.length_append, List.length_cons, List.length_nil, List.length_take, List.length_drop] at *; omega))) ?_
      · as_aux_lemma => kernel_rfl
      · as_aux_lemma => kernel_rfl
      · as_aux_lemma => kernel_rfl
      refine QRUN 2 17 19 [(1, .p 0 0), (26, .v (.string (bs (((((((([119, 97, 105, 116, 115]) ++ ([32])) ++ (Lib.itoa s.cabin)) ++ ([32])) ++ (Lib.itoa s.level)) ++ ([32])) ++ (Lib.itoa s.place)) ++ ([32]))))), (28, I s.left)] ?_ rfl ?_
      · as_aux_lemma => kernel_rfl
      have hr6 := itoa_len (n := s.left) (by first | assumption | exact wr_range _ | (unfold i64R at *; omega) | (simp only [i64R] at *; omega))
      refine QCALL 7 #[vi s.left] (some 29) ?_ (.string (bs (Lib.itoa s.left))) (fun w hw => sDigits_c w s.left (by first | assumption | exact wr_range _ | (unfold i64R at *; omega) | (simp only [i64R] at *; omega))) (by rintro _ ⟨⟩; exact Nat.le_of_ble_eq_true rfl) ?_
      · as_aux_lemma => kernel_rfl
      refine QRUNV (.binOp .add 9 (.tmp 26) (.tmp 29) 9) 30 9 ?_ (Nat.le_of_ble_eq_true rfl) (.string (bs ((((((((([119, 97, 105, 116, 115]) ++ ([32])) ++ (Lib.itoa s.cabin)) ++ ([32])) ++ (Lib.itoa s.level)) ++ ([32])) ++ (Lib.itoa s.place)) ++ ([32])) ++ (Lib.itoa s.left)))) (runs_scat (a := ((((((([119, 97, 105, 116, 115]) ++ ([32])) ++ (Lib.itoa s.cabin)) ++ ([32])) ++ (Lib.itoa s.level)) ++ ([32])) ++ (Lib.itoa s.place)) ++ ([32])) (b := Lib.itoa s.left) ?_ ?_ (by first | omega | (simp only [List.length_append, List.length_cons, List.length_nil, List.length_take, List.length_drop] at *; omega))) ?_
      · as_aux_lemma => kernel_rfl
      · as_aux_lemma => kernel_rfl
      · as_aux_lemma => kernel_rfl
      refine QRUNV (.binOp .add 9 (.tmp 30) (.const (.string (bs ([32])))) 9) 31 9 ?_ (Nat.le_of_ble_eq_true rfl) (.string (bs (((((((((([119, 97, 105, 116, 115]) ++ ([32])) ++ (Lib.itoa s.cabin)) ++ ([32])) ++ (Lib.itoa s.level)) ++ ([32])) ++ (Lib.itoa s.place)) ++ ([32])) ++ (Lib.itoa s.left)) ++ ([32])))) (runs_scat (a := (((((((([119, 97, 105, 116, 115]) ++ ([32])) ++ (Lib.itoa s.cabin)) ++ ([32])) ++ (Lib.itoa s.level)) ++ ([32])) ++ (Lib.itoa s.place)) ++ ([32])) ++ (Lib.itoa s.left)) (b := [32]) ?_ ?_ (by first | omega | (simp only [List.length_append, List.length_cons, List.length_nil, List.length_take, List.length_drop] at *; omega))) ?_
      · as_aux_lemma => kernel_rfl
      · as_aux_lemma => kernel_rfl
      · as_aux_lemma => kernel_rfl
      refine QRUN 2 22 24 [(31, .v (.string (bs (((((((((([119, 97, 105, 116, 115]) ++ ([32])) ++ (Lib.itoa s.cabin)) ++ ([32])) ++ (Lib.itoa s.level)) ++ ([32])) ++ (Lib.itoa s.place)) ++ ([32])) ++ (Lib.itoa s.left)) ++ ([32]))))), (33, I s.asked)] ?_ rfl ?_
      · as_aux_lemma => kernel_rfl
      have hr7 := itoa_len (n := s.asked) (by first | assumption | exact wr_range _ | (unfold i64R at *; omega) | (simp only [i64R] at *; omega))
      refine QCALL 7 #[vi s.asked] (some 34) ?_ (.string (bs (Lib.itoa s.asked))) (fun w hw => sDigits_c w s.asked (by first | assumption | exact wr_range _ | (unfold i64R at *; omega) | (simp only [i64R] at *; omega))) (by rintro _ ⟨⟩; exact Nat.le_of_ble_eq_true rfl) ?_
      · as_aux_lemma => kernel_rfl
      refine QRUNV (.binOp .add 9 (.tmp 31) (.tmp 34) 9) 35 9 ?_ (Nat.le_of_ble_eq_true rfl) (.string (bs ((((((((((([119, 97, 105, 116, 115]) ++ ([32])) ++ (Lib.itoa s.cabin)) ++ ([32])) ++ (Lib.itoa s.level)) ++ ([32])) ++ (Lib.itoa s.place)) ++ ([32])) ++ (Lib.itoa s.left)) ++ ([32])) ++ (Lib.itoa s.asked)))) (runs_scat (a := ((((((((([119, 97, 105, 116, 115]) ++ ([32])) ++ (Lib.itoa s.cabin)) ++ ([32])) ++ (Lib.itoa s.level)) ++ ([32])) ++ (Lib.itoa s.place)) ++ ([32])) ++ (Lib.itoa s.left)) ++ ([32])) (b := Lib.itoa s.asked) ?_ ?_ (by first | omega | (simp only [List.length_append, List.length_cons, List.length_nil, List.length_take, List.length_drop] at *; omega))) ?_
      · as_aux_lemma => kernel_rfl
      · as_aux_lemma => kernel_rfl
      · as_aux_lemma => kernel_rfl
      refine QRUN 1 26 27 [(2, .v (.string (bs ((((((((((([119, 97, 105, 116, 115]) ++ ([32])) ++ (Lib.itoa s.cabin)) ++ ([32])) ++ (Lib.itoa s.level)) ++ ([32])) ++ (Lib.itoa s.place)) ++ ([32])) ++ (Lib.itoa s.left)) ++ ([32])) ++ (Lib.itoa s.asked)))))] ?_ rfl ?_
      · as_aux_lemma => kernel_rfl
      refine QEND rfl (NEXT (RET (FIN (.string (bs ((((((((((([119, 97, 105, 116, 115]) ++ ([32])) ++ (Lib.itoa s.cabin)) ++ ([32])) ++ (Lib.itoa s.level)) ++ ([32])) ++ (Lib.itoa s.place)) ++ ([32])) ++ (Lib.itoa s.left)) ++ ([32])) ++ (Lib.itoa s.asked)))) ?_ () ?_ [] ?_)))
      · as_aux_lemma => kernel_rfl
      · (simp_all [RV, standLine, standWord, joinSp])
      · rfl
  · -- s.state == 1 = false
    have h1 := bh1
    have h1 := ne_of_beq_false h1
    refine SKIP (NEXT (SEQ (SEQ (REGION [0, 1, 2] rfl (RUN0 3 [] [(1, .p 0 0), (3, .v (.string (bs ([63])))), (9, B (s.state == 2))] ?_ rfl ?_)))))
    · as_aux_lemma => kernel_rfl
    refine ENDOPS (NEXT (IF (s.state == 2) ?_ (fun bh8 => ?_) (fun bh8 => ?_)))
    · as_aux_lemma => kernel_rfl
    · -- s.state == 2 = true
      have h8 := bh8
      have h8 := eq_of_beq h8
      refine REGION [0] rfl (RUN0 1 [] [(1, .p 0 0), (3, .v (.string (bs ([111, 102, 102, 101, 114, 101, 100]))))] ?_ rfl ?_)
      · as_aux_lemma => kernel_rfl
      refine ENDOPS (NEXT (SEQ (REGIONQ ?_ ?_ ?_)))
      · as_aux_lemma => kernel_rfl
      · as_aux_lemma => kernel_rfl
      refine QRUN 1 0 1 [(1, .p 0 0), (10, .v (.string (bs ([111, 102, 102, 101, 114, 101, 100]))))] ?_ rfl ?_
      · as_aux_lemma => kernel_rfl
      refine QRUNV (.binOp .add 9 (.tmp 10) (.const (.string (bs ([32])))) 9) 11 9 ?_ (Nat.le_of_ble_eq_true rfl) (.string (bs (([111, 102, 102, 101, 114, 101, 100]) ++ ([32])))) (runs_scat (a := [111, 102, 102, 101, 114, 101, 100]) (b := [32]) ?_ ?_ (by first | omega | (simp only [List.length_append, List.length_cons, List.length_nil, List.length_take, List.length_drop] at *; omega))) ?_
      · as_aux_lemma => kernel_rfl
      · as_aux_lemma => kernel_rfl
      · as_aux_lemma => kernel_rfl
      refine QRUN 2 2 4 [(1, .p 0 0), (11, .v (.string (bs (([111, 102, 102, 101, 114, 101, 100]) ++ ([32]))))), (13, I s.cabin)] ?_ rfl ?_
      · as_aux_lemma => kernel_rfl
      have hr9 := itoa_len (n := s.cabin) (by first | assumption | exact wr_range _ | (unfold i64R at *; omega) | (simp only [i64R] at *; omega))
      refine QCALL 7 #[vi s.cabin] (some 14) ?_ (.string (bs (Lib.itoa s.cabin))) (fun w hw => sDigits_c w s.cabin (by first | assumption | exact wr_range _ | (unfold i64R at *; omega) | (simp only [i64R] at *; omega))) (by rintro _ ⟨⟩; exact Nat.le_of_ble_eq_true rfl) ?_
      · as_aux_lemma => kernel_rfl
      refine QRUNV (.binOp .add 9 (.tmp 11) (.tmp 14) 9) 15 9 ?_ (Nat.le_of_ble_eq_true rfl) (.string (bs ((([111, 102, 102, 101, 114, 101, 100]) ++ ([32])) ++ (Lib.itoa s.cabin)))) (runs_scat (a := ([111, 102, 102, 101, 114, 101, 100]) ++ ([32])) (b := Lib.itoa s.cabin) ?_ ?_ (by first | omega | (simp only [List.length_append, List.length_cons, List.length_nil, List.length_take, List.length_drop] at *; omega))) ?_
      · as_aux_lemma => kernel_rfl
      · as_aux_lemma => kernel_rfl
      · as_aux_lemma => kernel_rfl
      refine QRUNV (.binOp .add 9 (.tmp 15) (.const (.string (bs ([32])))) 9) 16 9 ?_ (Nat.le_of_ble_eq_true rfl) (.string (bs (((([111, 102, 102, 101, 114, 101, 100]) ++ ([32])) ++ (Lib.itoa s.cabin)) ++ ([32])))) (runs_scat (a := (([111, 102, 102, 101, 114, 101, 100]) ++ ([32])) ++ (Lib.itoa s.cabin)) (b := [32]) ?_ ?_ (by first | omega | (simp only [List.length_append, List.length_cons, List.length_nil, List.length_take, List.length_drop] at *; omega))) ?_
      · as_aux_lemma => kernel_rfl
      · as_aux_lemma => kernel_rfl
      · as_aux_lemma => kernel_rfl
      refine QRUN 2 7 9 [(1, .p 0 0), (16, .v (.string (bs (((([111, 102, 102, 101, 114, 101, 100]) ++ ([32])) ++ (Lib.itoa s.cabin)) ++ ([32]))))), (18, I s.level)] ?_ rfl ?_
      · as_aux_lemma => kernel_rfl
      have hr10 := itoa_len (n := s.level) (by first | assumption | exact wr_range _ | (unfold i64R at *; omega) | (simp only [i64R] at *; omega))
      refine QCALL 7 #[vi s.level] (some 19) ?_ (.string (bs (Lib.itoa s.level))) (fun w hw => sDigits_c w s.level (by first | assumption | exact wr_range _ | (unfold i64R at *; omega) | (simp only [i64R] at *; omega))) (by rintro _ ⟨⟩; exact Nat.le_of_ble_eq_true rfl) ?_
      · as_aux_lemma => kernel_rfl
      refine QRUNV (.binOp .add 9 (.tmp 16) (.tmp 19) 9) 20 9 ?_ (Nat.le_of_ble_eq_true rfl) (.string (bs ((((([111, 102, 102, 101, 114, 101, 100]) ++ ([32])) ++ (Lib.itoa s.cabin)) ++ ([32])) ++ (Lib.itoa s.level)))) (runs_scat (a := ((([111, 102, 102, 101, 114, 101, 100]) ++ ([32])) ++ (Lib.itoa s.cabin)) ++ ([32])) (b := Lib.itoa s.level) ?_ ?_ (by first | omega | (simp only [List.length_append, List.length_cons, List.length_nil, List.length_take, List.length_drop] at *; omega))) ?_
      · as_aux_lemma => kernel_rfl
      · as_aux_lemma => kernel_rfl
      · as_aux_lemma => kernel_rfl
      refine QRUNV (.binOp .add 9 (.tmp 20) (.const (.string (bs ([32])))) 9) 21 9 ?_ (Nat.le_of_ble_eq_true rfl) (.string (bs (((((([111, 102, 102, 101, 114, 101, 100]) ++ ([32])) ++ (Lib.itoa s.cabin)) ++ ([32])) ++ (Lib.itoa s.level)) ++ ([32])))) (runs_scat (a := (((([111, 102, 102, 101, 114, 101, 100]) ++ ([32])) ++ (Lib.itoa s.cabin)) ++ ([32])) ++ (Lib.itoa s.level)) (b := [32]) ?_ ?_ (by first | omega | (simp only [List.length_append, List.length_cons, List.length_nil, List.length_take, List.length_drop] at *; omega))) ?_
      · as_aux_lemma => kernel_rfl
      · as_aux_lemma => kernel_rfl
      · as_aux_lemma => kernel_rfl
      refine QRUN 2 12 14 [(1, .p 0 0), (21, .v (.string (bs (((((([111, 102, 102, 101, 114, 101, 100]) ++ ([32])) ++ (Lib.itoa s.cabin)) ++ ([32])) ++ (Lib.itoa s.level)) ++ ([32]))))), (23, I s.place)] ?_ rfl ?_
      · as_aux_lemma => kernel_rfl
      have hr11 := itoa_len (n := s.place) (by first | assumption | exact wr_range _ | (unfold i64R at *; omega) | (simp only [i64R] at *; omega))
      refine QCALL 7 #[vi s.place] (some 24) ?_ (.string (bs (Lib.itoa s.place))) (fun w hw => sDigits_c w s.place (by first | assumption | exact wr_range _ | (unfold i64R at *; omega) | (simp only [i64R] at *; omega))) (by rintro _ ⟨⟩; exact Nat.le_of_ble_eq_true rfl) ?_
      · as_aux_lemma => kernel_rfl
      refine QRUNV (.binOp .add 9 (.tmp 21) (.tmp 24) 9) 25 9 ?_ (Nat.le_of_ble_eq_true rfl) (.string (bs ((((((([111, 102, 102, 101, 114, 101, 100]) ++ ([32])) ++ (Lib.itoa s.cabin)) ++ ([32])) ++ (Lib.itoa s.level)) ++ ([32])) ++ (Lib.itoa s.place)))) (runs_scat (a := ((((([111, 102, 102, 101, 114, 101, 100]) ++ ([32])) ++ (Lib.itoa s.cabin)) ++ ([32])) ++ (Lib.itoa s.level)) ++ ([32])) (b := Lib.itoa s.place) ?_ ?_ (by first | omega | (simp only [List.length_append, List.length_cons, List.length_nil, List.length_take, List.length_drop] at *; omega))) ?_
      · as_aux_lemma => kernel_rfl
      · as_aux_lemma => kernel_rfl
      · as_aux_lemma => kernel_rfl
      refine QRUNV (.binOp .add 9 (.tmp 25) (.const (.string (bs ([32])))) 9) 26 9 ?_ (Nat.le_of_ble_eq_true rfl) (.string (bs (((((((([111, 102, 102, 101, 114, 101, 100]) ++ ([32])) ++ (Lib.itoa s.cabin)) ++ ([32])) ++ (Lib.itoa s.level)) ++ ([32])) ++ (Lib.itoa s.place)) ++ ([32])))) (runs_scat (a := (((((([111, 102, 102, 101, 114, 101, 100]) ++ ([32])) ++ (Lib.itoa s.cabin)) ++ ([32])) ++ (Lib.itoa s.level)) ++ ([32])) ++ (Lib.itoa s.place)) (b := [32]) ?_ ?_ (by first | omega | (simp only [List.length_append, List.length_cons, List.length_nil, List.length_take, List.length_drop] at *; omega))) ?_
      · as_aux_lemma => kernel_rfl
      · as_aux_lemma => kernel_rfl
      · as_aux_lemma => kernel_rfl
      refine QRUN 2 17 19 [(1, .p 0 0), (26, .v (.string (bs (((((((([111, 102, 102, 101, 114, 101, 100]) ++ ([32])) ++ (Lib.itoa s.cabin)) ++ ([32])) ++ (Lib.itoa s.level)) ++ ([32])) ++ (Lib.itoa s.place)) ++ ([32]))))), (28, I s.left)] ?_ rfl ?_
      · as_aux_lemma => kernel_rfl
      have hr12 := itoa_len (n := s.left) (by first | assumption | exact wr_range _ | (unfold i64R at *; omega) | (simp only [i64R] at *; omega))
      refine QCALL 7 #[vi s.left] (some 29) ?_ (.string (bs (Lib.itoa s.left))) (fun w hw => sDigits_c w s.left (by first | assumption | exact wr_range _ | (unfold i64R at *; omega) | (simp only [i64R] at *; omega))) (by rintro _ ⟨⟩; exact Nat.le_of_ble_eq_true rfl) ?_
      · as_aux_lemma => kernel_rfl
      refine QRUNV (.binOp .add 9 (.tmp 26) (.tmp 29) 9) 30 9 ?_ (Nat.le_of_ble_eq_true rfl) (.string (bs ((((((((([111, 102, 102, 101, 114, 101, 100]) ++ ([32])) ++ (Lib.itoa s.cabin)) ++ ([32])) ++ (Lib.itoa s.level)) ++ ([32])) ++ (Lib.itoa s.place)) ++ ([32])) ++ (Lib.itoa s.left)))) (runs_scat (a := ((((((([111, 102, 102, 101, 114, 101, 100]) ++ ([32])) ++ (Lib.itoa s.cabin)) ++ ([32])) ++ (Lib.itoa s.level)) ++ ([32])) ++ (Lib.itoa s.place)) ++ ([32])) (b := Lib.itoa s.left) ?_ ?_ (by first | omega | (simp only [List.length_append, List.length_cons, List.length_nil, List.length_take, List.length_drop] at *; omega))) ?_
      · as_aux_lemma => kernel_rfl
      · as_aux_lemma => kernel_rfl
      · as_aux_lemma => kernel_rfl
      refine QRUNV (.binOp .add 9 (.tmp 30) (.const (.string (bs ([32])))) 9) 31 9 ?_ (Nat.le_of_ble_eq_true rfl) (.string (bs (((((((((([111, 102, 102, 101, 114, 101, 100]) ++ ([32])) ++ (Lib.itoa s.cabin)) ++ ([32])) ++ (Lib.itoa s.level)) ++ ([32])) ++ (Lib.itoa s.place)) ++ ([32])) ++ (Lib.itoa s.left)) ++ ([32])))) (runs_scat (a := (((((((([111, 102, 102, 101, 114, 101, 100]) ++ ([32])) ++ (Lib.itoa s.cabin)) ++ ([32])) ++ (Lib.itoa s.level)) ++ ([32])) ++ (Lib.itoa s.place)) ++ ([32])) ++ (Lib.itoa s.left)) (b := [32]) ?_ ?_ (by first | omega | (simp only [List.length_append, List.length_cons, List.length_nil, List.length_take, List.length_drop] at *; omega))) ?_
      · as_aux_lemma => kernel_rfl
      · as_aux_lemma => kernel_rfl
      · as_aux_lemma => kernel_rfl
      refine QRUN 2 22 24 [(31, .v (.string (bs (((((((((([111, 102, 102, 101, 114, 101, 100]) ++ ([32])) ++ (Lib.itoa s.cabin)) ++ ([32])) ++ (Lib.itoa s.level)) ++ ([32])) ++ (Lib.itoa s.place)) ++ ([32])) ++ (Lib.itoa s.left)) ++ ([32]))))), (33, I s.asked)] ?_ rfl ?_
      · as_aux_lemma => kernel_rfl
      have hr13 := itoa_len (n := s.asked) (by first | assumption | exact wr_range _ | (unfold i64R at *; omega) | (simp only [i64R] at *; omega))
      refine QCALL 7 #[vi s.asked] (some 34) ?_ (.string (bs (Lib.itoa s.asked))) (fun w hw => sDigits_c w s.asked (by first | assumption | exact wr_range _ | (unfold i64R at *; omega) | (simp only [i64R] at *; omega))) (by rintro _ ⟨⟩; exact Nat.le_of_ble_eq_true rfl) ?_
      · as_aux_lemma => kernel_rfl
      refine QRUNV (.binOp .add 9 (.tmp 31) (.tmp 34) 9) 35 9 ?_ (Nat.le_of_ble_eq_true rfl) (.string (bs ((((((((((([111, 102, 102, 101, 114, 101, 100]) ++ ([32])) ++ (Lib.itoa s.cabin)) ++ ([32])) ++ (Lib.itoa s.level)) ++ ([32])) ++ (Lib.itoa s.place)) ++ ([32])) ++ (Lib.itoa s.left)) ++ ([32])) ++ (Lib.itoa s.asked)))) (runs_scat (a := ((((((((([111, 102, 102, 101, 114, 101, 100]) ++ ([32])) ++ (Lib.itoa s.cabin)) ++ ([32])) ++ (Lib.itoa s.level)) ++ ([32])) ++ (Lib.itoa s.place)) ++ ([32])) ++ (Lib.itoa s.left)) ++ ([32])) (b := Lib.itoa s.asked) ?_ ?_ (by first | omega | (simp only [List.length_append, List.length_cons, List.length_nil, List.length_take, List.length_drop] at *; omega))) ?_
      · as_aux_lemma => kernel_rfl
      · as_aux_lemma => kernel_rfl
      · as_aux_lemma => kernel_rfl
      refine QRUN 1 26 27 [(2, .v (.string (bs ((((((((((([111, 102, 102, 101, 114, 101, 100]) ++ ([32])) ++ (Lib.itoa s.cabin)) ++ ([32])) ++ (Lib.itoa s.level)) ++ ([32])) ++ (Lib.itoa s.place)) ++ ([32])) ++ (Lib.itoa s.left)) ++ ([32])) ++ (Lib.itoa s.asked)))))] ?_ rfl ?_
      · as_aux_lemma => kernel_rfl
      refine QEND rfl (NEXT (RET (FIN (.string (bs ((((((((((([111, 102, 102, 101, 114, 101, 100]) ++ ([32])) ++ (Lib.itoa s.cabin)) ++ ([32])) ++ (Lib.itoa s.level)) ++ ([32])) ++ (Lib.itoa s.place)) ++ ([32])) ++ (Lib.itoa s.left)) ++ ([32])) ++ (Lib.itoa s.asked)))) ?_ () ?_ [] ?_)))
      · as_aux_lemma => kernel_rfl
      · (simp_all [RV, standLine, standWord, joinSp])
      · rfl
    · -- s.state == 2 = false
      have h8 := bh8
      have h8 := ne_of_beq_false h8
      refine SKIP (NEXT (SEQ (REGIONQ ?_ ?_ ?_)))
      · as_aux_lemma => kernel_rfl
      · as_aux_lemma => kernel_rfl
      refine QRUN 1 0 1 [(1, .p 0 0), (10, .v (.string (bs ([63]))))] ?_ rfl ?_
      · as_aux_lemma => kernel_rfl
      refine QRUNV (.binOp .add 9 (.tmp 10) (.const (.string (bs ([32])))) 9) 11 9 ?_ (Nat.le_of_ble_eq_true rfl) (.string (bs (([63]) ++ ([32])))) (runs_scat (a := [63]) (b := [32]) ?_ ?_ (by first | omega | (simp only [List.length_append, List.length_cons, List.length_nil, List.length_take, List.length_drop] at *; omega))) ?_
      · as_aux_lemma => kernel_rfl
      · as_aux_lemma => kernel_rfl
      · as_aux_lemma => kernel_rfl
      refine QRUN 2 2 4 [(1, .p 0 0), (11, .v (.string (bs (([63]) ++ ([32]))))), (13, I s.cabin)] ?_ rfl ?_
      · as_aux_lemma => kernel_rfl
      have hr14 := itoa_len (n := s.cabin) (by first | assumption | exact wr_range _ | (unfold i64R at *; omega) | (simp only [i64R] at *; omega))
      refine QCALL 7 #[vi s.cabin] (some 14) ?_ (.string (bs (Lib.itoa s.cabin))) (fun w hw => sDigits_c w s.cabin (by first | assumption | exact wr_range _ | (unfold i64R at *; omega) | (simp only [i64R] at *; omega))) (by rintro _ ⟨⟩; exact Nat.le_of_ble_eq_true rfl) ?_
      · as_aux_lemma => kernel_rfl
      refine QRUNV (.binOp .add 9 (.tmp 11) (.tmp 14) 9) 15 9 ?_ (Nat.le_of_ble_eq_true rfl) (.string (bs ((([63]) ++ ([32])) ++ (Lib.itoa s.cabin)))) (runs_scat (a := ([63]) ++ ([32])) (b := Lib.itoa s.cabin) ?_ ?_ (by first | omega | (simp only [List.length_append, List.length_cons, List.length_nil, List.length_take, List.length_drop] at *; omega))) ?_
      · as_aux_lemma => kernel_rfl
      · as_aux_lemma => kernel_rfl
      · as_aux_lemma => kernel_rfl
      refine QRUNV (.binOp .add 9 (.tmp 15) (.const (.string (bs ([32])))) 9) 16 9 ?_ (Nat.le_of_ble_eq_true rfl) (.string (bs (((([63]) ++ ([32])) ++ (Lib.itoa s.cabin)) ++ ([32])))) (runs_scat (a := (([63]) ++ ([32])) ++ (Lib.itoa s.cabin)) (b := [32]) ?_ ?_ (by first | omega | (simp only [List.length_append, List.length_cons, List.length_nil, List.length_take, List.length_drop] at *; omega))) ?_
      · as_aux_lemma => kernel_rfl
      · as_aux_lemma => kernel_rfl
      · as_aux_lemma => kernel_rfl
      refine QRUN 2 7 9 [(1, .p 0 0), (16, .v (.string (bs (((([63]) ++ ([32])) ++ (Lib.itoa s.cabin)) ++ ([32]))))), (18, I s.level)] ?_ rfl ?_
      · as_aux_lemma => kernel_rfl
      have hr15 := itoa_len (n := s.level) (by first | assumption | exact wr_range _ | (unfold i64R at *; omega) | (simp only [i64R] at *; omega))
      refine QCALL 7 #[vi s.level] (some 19) ?_ (.string (bs (Lib.itoa s.level))) (fun w hw => sDigits_c w s.level (by first | assumption | exact wr_range _ | (unfold i64R at *; omega) | (simp only [i64R] at *; omega))) (by rintro _ ⟨⟩; exact Nat.le_of_ble_eq_true rfl) ?_
      · as_aux_lemma => kernel_rfl
      refine QRUNV (.binOp .add 9 (.tmp 16) (.tmp 19) 9) 20 9 ?_ (Nat.le_of_ble_eq_true rfl) (.string (bs ((((([63]) ++ ([32])) ++ (Lib.itoa s.cabin)) ++ ([32])) ++ (Lib.itoa s.level)))) (runs_scat (a := ((([63]) ++ ([32])) ++ (Lib.itoa s.cabin)) ++ ([32])) (b := Lib.itoa s.level) ?_ ?_ (by first | omega | (simp only [List.length_append, List.length_cons, List.length_nil, List.length_take, List.length_drop] at *; omega))) ?_
      · as_aux_lemma => kernel_rfl
      · as_aux_lemma => kernel_rfl
      · as_aux_lemma => kernel_rfl
      refine QRUNV (.binOp .add 9 (.tmp 20) (.const (.string (bs ([32])))) 9) 21 9 ?_ (Nat.le_of_ble_eq_true rfl) (.string (bs (((((([63]) ++ ([32])) ++ (Lib.itoa s.cabin)) ++ ([32])) ++ (Lib.itoa s.level)) ++ ([32])))) (runs_scat (a := (((([63]) ++ ([32])) ++ (Lib.itoa s.cabin)) ++ ([32])) ++ (Lib.itoa s.level)) (b := [32]) ?_ ?_ (by first | omega | (simp only [List.length_append, List.length_cons, List.length_nil, List.length_take, List.length_drop] at *; omega))) ?_
      · as_aux_lemma => kernel_rfl
      · as_aux_lemma => kernel_rfl
      · as_aux_lemma => kernel_rfl
      refine QRUN 2 12 14 [(1, .p 0 0), (21, .v (.string (bs (((((([63]) ++ ([32])) ++ (Lib.itoa s.cabin)) ++ ([32])) ++ (Lib.itoa s.level)) ++ ([32]))))), (23, I s.place)] ?_ rfl ?_
      · as_aux_lemma => kernel_rfl
      have hr16 := itoa_len (n := s.place) (by first | assumption | exact wr_range _ | (unfold i64R at *; omega) | (simp only [i64R] at *; omega))
      refine QCALL 7 #[vi s.place] (some 24) ?_ (.string (bs (Lib.itoa s.place))) (fun w hw => sDigits_c w s.place (by first | assumption | exact wr_range _ | (unfold i64R at *; omega) | (simp only [i64R] at *; omega))) (by rintro _ ⟨⟩; exact Nat.le_of_ble_eq_true rfl) ?_
      · as_aux_lemma => kernel_rfl
      refine QRUNV (.binOp .add 9 (.tmp 21) (.tmp 24) 9) 25 9 ?_ (Nat.le_of_ble_eq_true rfl) (.string (bs ((((((([63]) ++ ([32])) ++ (Lib.itoa s.cabin)) ++ ([32])) ++ (Lib.itoa s.level)) ++ ([32])) ++ (Lib.itoa s.place)))) (runs_scat (a := ((((([63]) ++ ([32])) ++ (Lib.itoa s.cabin)) ++ ([32])) ++ (Lib.itoa s.level)) ++ ([32])) (b := Lib.itoa s.place) ?_ ?_ (by first | omega | (simp only [List.length_append, List.length_cons, List.length_nil, List.length_take, List.length_drop] at *; omega))) ?_
      · as_aux_lemma => kernel_rfl
      · as_aux_lemma => kernel_rfl
      · as_aux_lemma => kernel_rfl
      refine QRUNV (.binOp .add 9 (.tmp 25) (.const (.string (bs ([32])))) 9) 26 9 ?_ (Nat.le_of_ble_eq_true rfl) (.string (bs (((((((([63]) ++ ([32])) ++ (Lib.itoa s.cabin)) ++ ([32])) ++ (Lib.itoa s.level)) ++ ([32])) ++ (Lib.itoa s.place)) ++ ([32])))) (runs_scat (a := (((((([63]) ++ ([32])) ++ (Lib.itoa s.cabin)) ++ ([32])) ++ (Lib.itoa s.level)) ++ ([32])) ++ (Lib.itoa s.place)) (b := [32]) ?_ ?_ (by first | omega | (simp only [List.length_append, List.length_cons, List.length_nil, List.length_take, List.length_drop] at *; omega))) ?_
      · as_aux_lemma => kernel_rfl
      · as_aux_lemma => kernel_rfl
      · as_aux_lemma => kernel_rfl
      refine QRUN 2 17 19 [(1, .p 0 0), (26, .v (.string (bs (((((((([63]) ++ ([32])) ++ (Lib.itoa s.cabin)) ++ ([32])) ++ (Lib.itoa s.level)) ++ ([32])) ++ (Lib.itoa s.place)) ++ ([32]))))), (28, I s.left)] ?_ rfl ?_
      · as_aux_lemma => kernel_rfl
      have hr17 := itoa_len (n := s.left) (by first | assumption | exact wr_range _ | (unfold i64R at *; omega) | (simp only [i64R] at *; omega))
      refine QCALL 7 #[vi s.left] (some 29) ?_ (.string (bs (Lib.itoa s.left))) (fun w hw => sDigits_c w s.left (by first | assumption | exact wr_range _ | (unfold i64R at *; omega) | (simp only [i64R] at *; omega))) (by rintro _ ⟨⟩; exact Nat.le_of_ble_eq_true rfl) ?_
      · as_aux_lemma => kernel_rfl
      refine QRUNV (.binOp .add 9 (.tmp 26) (.tmp 29) 9) 30 9 ?_ (Nat.le_of_ble_eq_true rfl) (.string (bs ((((((((([63]) ++ ([32])) ++ (Lib.itoa s.cabin)) ++ ([32])) ++ (Lib.itoa s.level)) ++ ([32])) ++ (Lib.itoa s.place)) ++ ([32])) ++ (Lib.itoa s.left)))) (runs_scat (a := ((((((([63]) ++ ([32])) ++ (Lib.itoa s.cabin)) ++ ([32])) ++ (Lib.itoa s.level)) ++ ([32])) ++ (Lib.itoa s.place)) ++ ([32])) (b := Lib.itoa s.left) ?_ ?_ (by first | omega | (simp only [List.length_append, List.length_cons, List.length_nil, List.length_take, List.length_drop] at *; omega))) ?_
      · as_aux_lemma => kernel_rfl
      · as_aux_lemma => kernel_rfl
      · as_aux_lemma => kernel_rfl
      refine QRUNV (.binOp .add 9 (.tmp 30) (.const (.string (bs ([32])))) 9) 31 9 ?_ (Nat.le_of_ble_eq_true rfl) (.string (bs (((((((((([63]) ++ ([32])) ++ (Lib.itoa s.cabin)) ++ ([32])) ++ (Lib.itoa s.level)) ++ ([32])) ++ (Lib.itoa s.place)) ++ ([32])) ++ (Lib.itoa s.left)) ++ ([32])))) (runs_scat (a := (((((((([63]) ++ ([32])) ++ (Lib.itoa s.cabin)) ++ ([32])) ++ (Lib.itoa s.level)) ++ ([32])) ++ (Lib.itoa s.place)) ++ ([32])) ++ (Lib.itoa s.left)) (b := [32]) ?_ ?_ (by first | omega | (simp only [List.length_append, List.length_cons, List.length_nil, List.length_take, List.length_drop] at *; omega))) ?_
      · as_aux_lemma => kernel_rfl
      · as_aux_lemma => kernel_rfl
      · as_aux_lemma => kernel_rfl
      refine QRUN 2 22 24 [(31, .v (.string (bs (((((((((([63]) ++ ([32])) ++ (Lib.itoa s.cabin)) ++ ([32])) ++ (Lib.itoa s.level)) ++ ([32])) ++ (Lib.itoa s.place)) ++ ([32])) ++ (Lib.itoa s.left)) ++ ([32]))))), (33, I s.asked)] ?_ rfl ?_
      · as_aux_lemma => kernel_rfl
      have hr18 := itoa_len (n := s.asked) (by first | assumption | exact wr_range _ | (unfold i64R at *; omega) | (simp only [i64R] at *; omega))
      refine QCALL 7 #[vi s.asked] (some 34) ?_ (.string (bs (Lib.itoa s.asked))) (fun w hw => sDigits_c w s.asked (by first | assumption | exact wr_range _ | (unfold i64R at *; omega) | (simp only [i64R] at *; omega))) (by rintro _ ⟨⟩; exact Nat.le_of_ble_eq_true rfl) ?_
      · as_aux_lemma => kernel_rfl
      refine QRUNV (.binOp .add 9 (.tmp 31) (.tmp 34) 9) 35 9 ?_ (Nat.le_of_ble_eq_true rfl) (.string (bs ((((((((((([63]) ++ ([32])) ++ (Lib.itoa s.cabin)) ++ ([32])) ++ (Lib.itoa s.level)) ++ ([32])) ++ (Lib.itoa s.place)) ++ ([32])) ++ (Lib.itoa s.left)) ++ ([32])) ++ (Lib.itoa s.asked)))) (runs_scat (a := ((((((((([63]) ++ ([32])) ++ (Lib.itoa s.cabin)) ++ ([32])) ++ (Lib.itoa s.level)) ++ ([32])) ++ (Lib.itoa s.place)) ++ ([32])) ++ (Lib.itoa s.left)) ++ ([32])) (b := Lib.itoa s.asked) ?_ ?_ (by first | omega | (simp only [List.length_append, List.length_cons, List.length_nil, List.length_take, List.length_drop] at *; omega))) ?_
      · as_aux_lemma => kernel_rfl
      · as_aux_lemma => kernel_rfl
      · as_aux_lemma => kernel_rfl
      refine QRUN 1 26 27 [(2, .v (.string (bs ((((((((((([63]) ++ ([32])) ++ (Lib.itoa s.cabin)) ++ ([32])) ++ (Lib.itoa s.level)) ++ ([32])) ++ (Lib.itoa s.place)) ++ ([32])) ++ (Lib.itoa s.left)) ++ ([32])) ++ (Lib.itoa s.asked)))))] ?_ rfl ?_
      · as_aux_lemma => kernel_rfl
      refine QEND rfl (NEXT (RET (FIN (.string (bs ((((((((((([63]) ++ ([32])) ++ (Lib.itoa s.cabin)) ++ ([32])) ++ (Lib.itoa s.level)) ++ ([32])) ++ (Lib.itoa s.place)) ++ ([32])) ++ (Lib.itoa s.left)) ++ ([32])) ++ (Lib.itoa s.asked)))) ?_ () ?_ [] ?_)))
      · as_aux_lemma => kernel_rfl
      · (simp_all [RV, standLine, standWord, joinSp])
      · rfl

theorem toStanding_c (W : World) (a : Standing) : Spec Tryd.prog W [] 5 #[.agg #[vi a.state, vi a.cabin, vi a.level, vi a.place, vi a.left, vi a.asked]] (RV (.agg #[vi a.state, vi a.cabin, vi a.level, vi a.place, vi a.left, vi a.asked])) := by
  refine ENTER0 (N := 23) (vs := [.agg #[vi a.state, vi a.cabin, vi a.level, vi a.place, vi a.left, vi a.asked]]) Tryd.func5 rfl rfl (Nat.le_of_ble_eq_true rfl) ?_
  refine SEQ (REGION [0, 1] rfl (RUN 2 [] [(1, .p 0 0), (2, .p 1 0)] [(23, [vi a.state, vi a.cabin, vi a.level, vi a.place, vi a.left, vi a.asked]), (25, [vi 0, vi 0, vi 0, vi 0, vi 0, vi 0])] ?_ rfl ?_))
  · as_aux_lemma => kernel_rfl
  refine ENDOPS (NEXT (SEQ (REGION [0] rfl (RUN 1 [] [(1, .p 0 0), (2, .p 1 0), (3, .p 2 0)] [(23, [vi a.state, vi a.cabin, vi a.level, vi a.place, vi a.left, vi a.asked]), (25, [vi 0, vi 0, vi 0, vi 0, vi 0, vi 0]), (25, [vi 0, vi 0, vi 0, vi 0, vi 0, vi 0])] ?_ rfl ?_))))
  · as_aux_lemma => kernel_rfl
  refine ENDOPS (NEXT (SEQ (REGION [0, 1, 2, 3] rfl (RUN 4 [] [(1, .p 0 0), (2, .p 1 0), (3, .p 2 0)] [(23, [vi a.state, vi a.cabin, vi a.level, vi a.place, vi a.left, vi a.asked]), (25, [vi 0, vi 0, vi 0, vi 0, vi 0, vi 0]), (25, [vi a.state, vi 0, vi 0, vi 0, vi 0, vi 0])] ?_ rfl ?_))))
  · as_aux_lemma => kernel_rfl
  refine ENDOPS (NEXT (SEQ (REGION [0, 1, 2, 3] rfl (RUN 4 [] [(1, .p 0 0), (2, .p 1 0), (3, .p 2 0)] [(23, [vi a.state, vi a.cabin, vi a.level, vi a.place, vi a.left, vi a.asked]), (25, [vi 0, vi 0, vi 0, vi 0, vi 0, vi 0]), (25, [vi a.state, vi a.cabin, vi 0, vi 0, vi 0, vi 0])] ?_ rfl ?_))))
  · as_aux_lemma => kernel_rfl
  refine ENDOPS (NEXT (SEQ (REGION [0, 1, 2, 3] rfl (RUN 4 [] [(1, .p 0 0), (2, .p 1 0), (3, .p 2 0)] [(23, [vi a.state, vi a.cabin, vi a.level, vi a.place, vi a.left, vi a.asked]), (25, [vi 0, vi 0, vi 0, vi 0, vi 0, vi 0]), (25, [vi a.state, vi a.cabin, vi a.level, vi 0, vi 0, vi 0])] ?_ rfl ?_))))
  · as_aux_lemma => kernel_rfl
  refine ENDOPS (NEXT (SEQ (REGION [0, 1, 2, 3] rfl (RUN 4 [] [(1, .p 0 0), (2, .p 1 0), (3, .p 2 0)] [(23, [vi a.state, vi a.cabin, vi a.level, vi a.place, vi a.left, vi a.asked]), (25, [vi 0, vi 0, vi 0, vi 0, vi 0, vi 0]), (25, [vi a.state, vi a.cabin, vi a.level, vi a.place, vi 0, vi 0])] ?_ rfl ?_))))
  · as_aux_lemma => kernel_rfl
  refine ENDOPS (NEXT (SEQ (REGION [0, 1, 2, 3] rfl (RUN 4 [] [(1, .p 0 0), (2, .p 1 0), (3, .p 2 0)] [(23, [vi a.state, vi a.cabin, vi a.level, vi a.place, vi a.left, vi a.asked]), (25, [vi 0, vi 0, vi 0, vi 0, vi 0, vi 0]), (25, [vi a.state, vi a.cabin, vi a.level, vi a.place, vi a.left, vi 0])] ?_ rfl ?_))))
  · as_aux_lemma => kernel_rfl
  refine ENDOPS (NEXT (SEQ (REGION [0, 1, 2, 3] rfl (RUN 4 [] [(2, .p 1 0), (3, .p 2 0)] [(23, [vi a.state, vi a.cabin, vi a.level, vi a.place, vi a.left, vi a.asked]), (25, [vi 0, vi 0, vi 0, vi 0, vi 0, vi 0]), (25, [vi a.state, vi a.cabin, vi a.level, vi a.place, vi a.left, vi a.asked])] ?_ rfl ?_))))
  · as_aux_lemma => kernel_rfl
  refine ENDOPS (NEXT (SEQ (REGION [0, 1] rfl (RUN 2 [] [(2, .p 1 0)] [(23, [vi a.state, vi a.cabin, vi a.level, vi a.place, vi a.left, vi a.asked]), (25, [vi a.state, vi a.cabin, vi a.level, vi a.place, vi a.left, vi a.asked]), (25, [vi a.state, vi a.cabin, vi a.level, vi a.place, vi a.left, vi a.asked])] ?_ rfl ?_))))
  · as_aux_lemma => kernel_rfl
  refine ENDOPS (NEXT (RET (FIN (.agg #[vi a.state, vi a.cabin, vi a.level, vi a.place, vi a.left, vi a.asked]) ?_ () ?_ [] ?_)))
  · as_aux_lemma => kernel_rfl
  · rfl
  · rfl

theorem exStandLine_c (W : World) (s : Standing) (hr : i64R s.cabin ∧ i64R s.level ∧ i64R s.place ∧ i64R s.left ∧ i64R s.asked) (htab : Tab Tryd.prog W) : Spec Tryd.prog W [] 3 #[.agg #[vi s.state, vi s.cabin, vi s.level, vi s.place, vi s.left, vi s.asked]] (RV (.bool true)) := by
  refine ENTER0 (N := 14) (vs := [.agg #[vi s.state, vi s.cabin, vi s.level, vi s.place, vi s.left, vi s.asked]]) Tryd.func3 rfl rfl (Nat.le_of_ble_eq_true rfl) ?_
  refine SEQ (REGION [0, 1] rfl (RUN 2 [] [(1, .p 0 0)] [(23, [vi s.state, vi s.cabin, vi s.level, vi s.place, vi s.left, vi s.asked])] ?_ rfl ?_))
  · as_aux_lemma => kernel_rfl
  refine ENDOPS (NEXT (SEQ (REGION [0, 1, 2, 3] rfl (RUN0 1 [1, 2, 3] [(1, .p 0 0), (5, .v (.agg #[vi s.state, vi s.cabin, vi s.level, vi s.place, vi s.left, vi s.asked]))] ?_ rfl ?_))))
  · as_aux_lemma => kernel_rfl
  refine OPC (CALL 5 #[.agg #[vi s.state, vi s.cabin, vi s.level, vi s.place, vi s.left, vi s.asked]] (some 6) ?_ [] [] _ rfl (RV (.agg #[vi s.state, vi s.cabin, vi s.level, vi s.place, vi s.left, vi s.asked])) (fun w hw => toStanding_c w s) (by rintro _ ⟨⟩; exact Nat.le_of_ble_eq_true rfl) ?_)
  · as_aux_lemma => kernel_rfl
  rintro ⟨⟩
  refine OPC (CALL 4 #[.agg #[vi s.state, vi s.cabin, vi s.level, vi s.place, vi s.left, vi s.asked]] (some 7) ?_ [] [] _ rfl (RV (.string (bs (standLine s)))) (fun w hw => sStandLine_c w s (by first | assumption | exact hr)) (by rintro _ ⟨⟩; exact Nat.le_of_ble_eq_true rfl) ?_)
  · as_aux_lemma => kernel_rfl
  rintro ⟨⟩
  refine RUN0 1 [] [(1, .p 0 0), (3, .v (.string (bs (standLine s))))] ?_ rfl ?_
  · as_aux_lemma => kernel_rfl
  refine ENDOPS (NEXT (SEQ (REGION [0, 1, 2, 3] rfl (RUN0 1 [1, 2, 3] [(3, .v (.string (bs (standLine s)))), (8, .v (.agg #[vi s.state, vi s.cabin, vi s.level, vi s.place, vi s.left, vi s.asked]))] ?_ rfl ?_))))
  · as_aux_lemma => kernel_rfl
  refine OPC (CALL 5 #[.agg #[vi s.state, vi s.cabin, vi s.level, vi s.place, vi s.left, vi s.asked]] (some 9) ?_ [] [] _ rfl (RV (.agg #[vi s.state, vi s.cabin, vi s.level, vi s.place, vi s.left, vi s.asked])) (fun w hw => toStanding_c w s) (by rintro _ ⟨⟩; exact Nat.le_of_ble_eq_true rfl) ?_)
  · as_aux_lemma => kernel_rfl
  rintro ⟨⟩
  refine OPC (CALL 6 #[.agg #[vi s.state, vi s.cabin, vi s.level, vi s.place, vi s.left, vi s.asked]] (some 10) ?_ [] [] _ rfl (RV (.string (bs (standLine s)))) (fun w hw => iStandLine_c w s (by first | assumption | exact hr) (htab.fr hw.fr)) (by rintro _ ⟨⟩; exact Nat.le_of_ble_eq_true rfl) ?_)
  · as_aux_lemma => kernel_rfl
  rintro ⟨⟩
  refine RUN0 1 [] [(3, .v (.string (bs (standLine s)))), (4, .v (.string (bs (standLine s))))] ?_ rfl ?_
  · as_aux_lemma => kernel_rfl
  refine ENDOPS (NEXT (SEQ (SEQ (REGION [0, 1, 2] rfl (RUN0 2 [2] [(11, .v (.string (bs (standLine s)))), (12, .v (.string (bs (standLine s))))] ?_ rfl ?_)))))
  · as_aux_lemma => kernel_rfl
  refine OPC (RUNV (.binOp .neq 9 (.tmp 11) (.tmp 12) 9) 13 4 ?_ (Nat.le_of_ble_eq_true rfl) (.bool (!((standLine s) == (standLine s)))) (runs_sneq (a := standLine s) (b := standLine s) ?_ ?_) ?_)
  · as_aux_lemma => kernel_rfl
  · as_aux_lemma => kernel_rfl
  · as_aux_lemma => kernel_rfl
  refine ENDOPS (NEXT (IF (!((standLine s) == (standLine s))) ?_ (fun bh1 => ?_) (fun bh1 => ?_)))
  · as_aux_lemma => kernel_rfl
  · -- !((standLine s) == (standLine s)) = true
    have h1 := bh1
    have h1 := notT h1
    have h1 := ne_of_beq_false h1
    refine SEQ (REGION [0] rfl (RUN0 1 [] [(2, B false)] ?_ rfl ?_))
    · as_aux_lemma => kernel_rfl
    refine ENDOPS (NEXT (RET (PASS trivial (FIN (.bool false) ?_ () ?_ [] ?_))))
    · as_aux_lemma => kernel_rfl
    · simp_all [RV]
    · rfl
  · -- !((standLine s) == (standLine s)) = false
    have h1 := bh1
    have h1 := notF h1
    have h1 := eq_of_beq h1
    refine SKIP (NEXT (SEQ (REGION [0] rfl (RUN0 1 [] [(2, B true)] ?_ rfl ?_))))
    · as_aux_lemma => kernel_rfl
    refine ENDOPS (NEXT (RET (FIN (.bool true) ?_ () ?_ [] ?_)))
    · as_aux_lemma => kernel_rfl
    · simp_all [RV]
    · rfl

end SX
end Go.Proofs.YtcjaeedkhlnegaaDoor
