/- Walks, printed by program. -/
import Derived.Test.YtkkmfnfafkeeeaaDoorV1
namespace Go.Proofs.YtkkmfnfafkeeeaaDoor
namespace SX
open Go Go.RowKit
set_option linter.unusedVariables false
set_option linter.unusedSimpArgs false
set_option maxRecDepth 10000
theorem itoa_c (W : World) (n : Int) (hn : i64R n) (htab : Tab Tryd.prog W) : Spec Tryd.prog W [] 51 #[vi n] (RV (.string (bs (Lib.itoa n)))) := Spec.grow (Tryd.strconv_Itoa n hn.1 hn.2 W htab)

theorem iDigits_c (W : World) (n : Int) (hn : i64R n) (htab : Tab Tryd.prog W) : Spec Tryd.prog W [] 35 #[vi n] (RV (.string (bs (Lib.itoa n)))) := by
  refine ENTER0 (N := 5) (vs := [vi n]) Tryd.func35 rfl rfl (Nat.le_of_ble_eq_true rfl) ?_
  refine SEQ (REGION [0] rfl (RUN0 1 [] [(0, I n)] ?_ rfl ?_))
  · as_aux_lemma => kernel_rfl
  refine ENDOPS (NEXT (SEQ (REGION [0, 1, 2] rfl (RUN0 1 [1, 2] [(3, I n)] ?_ rfl ?_))))
  · as_aux_lemma => kernel_rfl
  refine OPC (CALL 51 #[vi n] (some 4) ?_ [] [] _ rfl (RV (.string (bs (Lib.itoa n)))) (fun w hw => itoa_c w n (by first | assumption | exact wr_range _ | (unfold i64R at *; omega) | (simp only [i64R] at *; omega)) (htab.fr hw.fr)) (by rintro _ ⟨⟩; exact Nat.le_of_ble_eq_true rfl) ?_)
  · as_aux_lemma => kernel_rfl
  rintro ⟨⟩
  have hr1 := itoa_len (n := n) (by first | assumption | exact wr_range _ | (unfold i64R at *; omega) | (simp only [i64R] at *; omega))
  refine RUN0 1 [] [(2, .v (.string (bs (Lib.itoa n))))] ?_ rfl ?_
  · as_aux_lemma => kernel_rfl
  refine ENDOPS (NEXT (RET (FIN (.string (bs (Lib.itoa n))) ?_ () ?_ [] ?_)))
  · as_aux_lemma => kernel_rfl
  · simp [RV]
  · rfl

theorem sDigits_c (W : World) (n : Int) (hn : i64R n) : Spec Tryd.prog W [] 32 #[vi n] (RV (.string (bs (Lib.itoa n)))) := by
  refine ENTER0 (N := 31) (vs := [vi n]) Tryd.func32 rfl rfl (Nat.le_of_ble_eq_true rfl) ?_
  refine SEQ (REGION [0] rfl (RUN0 1 [] [(0, I n)] ?_ rfl ?_))
  · as_aux_lemma => kernel_rfl
  refine ENDOPS (NEXT (SEQ (SEQ (REGION [0, 1] rfl (RUN0 2 [] [(0, I n), (7, B (n == 0))] ?_ rfl ?_)))))
  · as_aux_lemma => kernel_rfl
  refine ENDOPS (NEXT (IF (n == 0) ?_ (fun bh1 => ?_) (fun bh1 => ?_)))
  · as_aux_lemma => kernel_rfl
  · -- n == 0 = true
    have h1 := bh1
    have h1 := eq_of_beq h1
    refine SEQ (REGION [0] rfl (RUN0 1 [] [(2, .v (.string (bs ([48]))))] ?_ rfl ?_))
    · as_aux_lemma => kernel_rfl
    refine ENDOPS (NEXT (RET (PASS trivial (FIN (.string (bs ([48]))) ?_ () ?_ [] ?_))))
    · as_aux_lemma => kernel_rfl
    · (show Value.string _ = Value.string (bs (Lib.itoa n)); congr 2; first | (subst_vars; exact itoa_zero.symm) | (rw [itoa_of (by assumption), ← hv]; simp_all [ddz]))
    · rfl
  · -- n == 0 = false
    have h1 := bh1
    have h1 := ne_of_beq_false h1
    refine SKIP (NEXT (SEQ (REGION [0, 1, 2] rfl (RUN0 3 [] [(0, I n), (3, B (decide (n < 0)))] ?_ rfl ?_))))
    · as_aux_lemma => kernel_rfl
    refine ENDOPS (NEXT (SEQ (REGION [0] rfl (RUN0 1 [] [(0, I n), (3, B (decide (n < 0))), (4, .v (.string (bs ([]))))] ?_ rfl ?_))))
    · as_aux_lemma => kernel_rfl
    refine ENDOPS (NEXT (SEQ (BLOCK (LOOP (ι := Int × (List UInt8)) (fun j => [(0, I j.1), (3, B (decide (n < 0))), (4, .v (.string (bs j.2)))]) (fun j => []) (fun j => []) (fun j => i64R j.1 ∧ ddz j.1.natAbs ++ j.2 = ddz n.natAbs) (fun j => j.1.natAbs) (n, []) [0, 3, 4] ⟨hn, by simp⟩ ?_ rfl rfl ?_))))
    · as_aux_lemma => kernel_rfl
    rintro ⟨m, out⟩ ⟨hm, hv⟩
    dsimp only at hm hv
    have hol : out.length ≤ 20 := by have h1 := congrArg List.length hv; have h2 := dec_len (u := n.natAbs) (by unfold i64R at hn; omega); simp only [List.length_append] at h1; omega
    refine SEQ (SEQ (REGION [0, 1] rfl (RUN0 2 [] [(0, I m), (3, B (decide (n < 0))), (4, .v (.string (bs out))), (11, B (m != 0))] ?_ rfl ?_)))
    · as_aux_lemma => kernel_rfl
    refine ENDOPS (NEXT (IF (m != 0) ?_ (fun bh2 => ?_) (fun bh2 => ?_)))
    · as_aux_lemma => kernel_rfl
    · -- m != 0 = true
      have h2 := bh2
      have h2 := bne_iff_ne.1 h2
      refine SKIP (NEXT (BLOCK (SEQ (REGION [0, 1, 2] rfl (RUN0 3 [] [(0, I m), (3, B (decide (n < 0))), (4, .v (.string (bs out))), (5, I (Int.tmod m 10))] ?_ rfl ?_)))))
      · as_aux_lemma => kernel_rfl
      refine ENDOPS (NEXT (SEQ (SEQ (REGION [0, 1] rfl (RUN0 2 [] [(0, I m), (3, B (decide (n < 0))), (4, .v (.string (bs out))), (5, I (Int.tmod m 10)), (15, B (decide ((Int.tmod m 10) < 0)))] ?_ rfl ?_)))))
      · as_aux_lemma => kernel_rfl
      refine ENDOPS (NEXT (IF (decide ((Int.tmod m 10) < 0)) ?_ (fun bh3 => ?_) (fun bh3 => ?_)))
      · as_aux_lemma => kernel_rfl
      · -- decide ((Int.tmod m 10) < 0) = true
        have h3 := bh3
        have h3 := of_decide_eq_true h3
        refine REGION [0, 1, 2] rfl (RUN0 3 [] [(0, I m), (3, B (decide (n < 0))), (4, .v (.string (bs out))), (5, I (wr (0 - (Int.tmod m 10))))] ?_ rfl ?_)
        · as_aux_lemma => kernel_rfl
        refine ENDOPS (NEXT (SEQ (REGION [0, 1, 2, 3, 4, 5, 6, 7] rfl (RUN0 3 [3, 4, 5, 6, 7] [(0, I m), (3, B (decide (n < 0))), (4, .v (.string (bs out))), (20, .v (.int .u8 (IntKind.wrap .u8 (wr (48 + (wr (0 - (Int.tmod m 10))))))))] ?_ rfl ?_))))
        · as_aux_lemma => kernel_rfl
        refine CAST (d := 20) (.int .u8 (IntKind.wrap .u8 (wr (48 + (wr (0 - (Int.tmod m 10))))))) (.int .u8 (((byteOf (wr (48 + (wr (0 - (Int.tmod m 10)))))).toNat : Nat) : Int)) ?_ (v8 (wr (48 + (wr (0 - (Int.tmod m 10)))))) ?_
        · as_aux_lemma => kernel_rfl
        refine OPC (BUILDS 53 1 #[(0, .tmp 20)] 21 53 ?_ (Nat.le_of_ble_eq_true rfl) 5 [.int .u8 (((byteOf (wr (48 + (wr (0 - (Int.tmod m 10)))))).toNat : Nat) : Int)] ?_ byteL ([byteOf (wr (48 + (wr (0 - (Int.tmod m 10)))))] : List UInt8) rfl (by simp only [maxLen]; omega) [] [] _ rfl (flatRep rfl) (fun a4 ha5 => ?_))
        · as_aux_lemma => kernel_rfl
        · as_aux_lemma => kernel_rfl
        refine FACT (1 = ([byteOf (wr (48 + (wr (0 - (Int.tmod m 10)))))] : List UInt8).length) (fun w hw => (SlO.lenE (hw.own 0 rfl)).1) (fun hln6 => ?_)
        refine OPC (RUNV (.convert 53 9 (.tmp 21)) 22 9 ?_ (Nat.le_of_ble_eq_true rfl) (.string (bs ([byteOf (wr (48 + (wr (0 - (Int.tmod m 10)))))] : List UInt8))) (runs_bstr (a := a4) (n := 1) (c := 1) (xs := ([byteOf (wr (48 + (wr (0 - (Int.tmod m 10)))))] : List UInt8)) (e := 5) ?_ ?_ ?_ ?_ hln6.symm (fun w hw => (Rd.own (hw.own 0 rfl)))) ?_)
        · as_aux_lemma => kernel_rfl
        · as_aux_lemma => kernel_rfl
        · as_aux_lemma => kernel_rfl
        · as_aux_lemma => kernel_rfl
        · as_aux_lemma => kernel_rfl
        refine RUN0 1 [6, 7] [(0, I m), (3, B (decide (n < 0))), (22, .v (.string (bs ([byteOf (wr (48 + (wr (0 - (Int.tmod m 10)))))] : List UInt8)))), (23, .v (.string (bs out)))] ?_ rfl ?_
        · as_aux_lemma => kernel_rfl
        refine OPC (RUNV (.binOp .add 9 (.tmp 22) (.tmp 23) 9) 24 9 ?_ (Nat.le_of_ble_eq_true rfl) (.string (bs (([byteOf (wr (48 + (wr (0 - (Int.tmod m 10)))))] : List UInt8) ++ out))) (runs_scat (a := ([byteOf (wr (48 + (wr (0 - (Int.tmod m 10)))))] : List UInt8)) (b := out) ?_ ?_ (by first | omega | (simp only [List.length_append, List.length_cons, List.length_nil, List.length_take, List.length_drop] at *; omega))) ?_)
        · as_aux_lemma => kernel_rfl
        · as_aux_lemma => kernel_rfl
        · as_aux_lemma => kernel_rfl
        refine RUN0 1 [] [(0, I m), (3, B (decide (n < 0))), (4, .v (.string (bs (([byteOf (wr (48 + (wr (0 - (Int.tmod m 10)))))] : List UInt8) ++ out))))] ?_ rfl ?_
        · as_aux_lemma => kernel_rfl
        refine ENDOPS (NEXT (REGION [0, 1, 2] rfl (RUN0 3 [] [(0, I (wr (Int.tdiv m 10))), (3, B (decide (n < 0))), (4, .v (.string (bs (([byteOf (wr (48 + (wr (0 - (Int.tmod m 10)))))] : List UInt8) ++ out))))] ?_ rfl ?_)))
        · as_aux_lemma => kernel_rfl
        refine ENDOPS (OUTN (BACK (wr (Int.tdiv m 10), ([byteOf (wr (48 + (wr (0 - (Int.tmod m 10)))))] : List UInt8) ++ out) [0, 3, 4] 0 [] _ ⟨(quo10 hm).1, by rw [← hv, (quo10 hm).2, ddz_step (u := m.natAbs) (by omega)]; first | (rw [dig_pos hm (by assumption)]; simp) | (rw [dig_neg hm (by assumption)]; simp)⟩ (by have := (quo10 hm).2; dsimp only; omega) ?_ rfl rfl rfl))
        · as_aux_lemma => kernel_rfl
      · -- decide ((Int.tmod m 10) < 0) = false
        have h3 := bh3
        have h3 := of_decide_eq_false h3
        refine SKIP (NEXT (SEQ (REGION [0, 1, 2, 3, 4, 5, 6, 7] rfl (RUN0 3 [3, 4, 5, 6, 7] [(0, I m), (3, B (decide (n < 0))), (4, .v (.string (bs out))), (20, .v (.int .u8 (IntKind.wrap .u8 (wr (48 + (Int.tmod m 10))))))] ?_ rfl ?_))))
        · as_aux_lemma => kernel_rfl
        refine CAST (d := 20) (.int .u8 (IntKind.wrap .u8 (wr (48 + (Int.tmod m 10))))) (.int .u8 (((byteOf (wr (48 + (Int.tmod m 10)))).toNat : Nat) : Int)) ?_ (v8 (wr (48 + (Int.tmod m 10)))) ?_
        · as_aux_lemma => kernel_rfl
        refine OPC (BUILDS 53 1 #[(0, .tmp 20)] 21 53 ?_ (Nat.le_of_ble_eq_true rfl) 5 [.int .u8 (((byteOf (wr (48 + (Int.tmod m 10)))).toNat : Nat) : Int)] ?_ byteL ([byteOf (wr (48 + (Int.tmod m 10)))] : List UInt8) rfl (by simp only [maxLen]; omega) [] [] _ rfl (flatRep rfl) (fun a7 ha8 => ?_))
        · as_aux_lemma => kernel_rfl
        · as_aux_lemma => kernel_rfl
        refine FACT (1 = ([byteOf (wr (48 + (Int.tmod m 10)))] : List UInt8).length) (fun w hw => (SlO.lenE (hw.own 0 rfl)).1) (fun hln9 => ?_)
        refine OPC (RUNV (.convert 53 9 (.tmp 21)) 22 9 ?_ (Nat.le_of_ble_eq_true rfl) (.string (bs ([byteOf (wr (48 + (Int.tmod m 10)))] : List UInt8))) (runs_bstr (a := a7) (n := 1) (c := 1) (xs := ([byteOf (wr (48 + (Int.tmod m 10)))] : List UInt8)) (e := 5) ?_ ?_ ?_ ?_ hln9.symm (fun w hw => (Rd.own (hw.own 0 rfl)))) ?_)
        · as_aux_lemma => kernel_rfl
        · as_aux_lemma => kernel_rfl
        · as_aux_lemma => kernel_rfl
        · as_aux_lemma => kernel_rfl
        · as_aux_lemma => kernel_rfl
        refine RUN0 1 [6, 7] [(0, I m), (3, B (decide (n < 0))), (22, .v (.string (bs ([byteOf (wr (48 + (Int.tmod m 10)))] : List UInt8)))), (23, .v (.string (bs out)))] ?_ rfl ?_
        · as_aux_lemma => kernel_rfl
        refine OPC (RUNV (.binOp .add 9 (.tmp 22) (.tmp 23) 9) 24 9 ?_ (Nat.le_of_ble_eq_true rfl) (.string (bs (([byteOf (wr (48 + (Int.tmod m 10)))] : List UInt8) ++ out))) (runs_scat (a := ([byteOf (wr (48 + (Int.tmod m 10)))] : List UInt8)) (b := out) ?_ ?_ (by first | omega | (simp only [List.length_append, List.length_cons, List.length_nil, List.length_take, List.length_drop] at *; omega))) ?_)
        · as_aux_lemma => kernel_rfl
        · as_aux_lemma => kernel_rfl
        · as_aux_lemma => kernel_rfl
        refine RUN0 1 [] [(0, I m), (3, B (decide (n < 0))), (4, .v (.string (bs (([byteOf (wr (48 + (Int.tmod m 10)))] : List UInt8) ++ out))))] ?_ rfl ?_
        · as_aux_lemma => kernel_rfl
        refine ENDOPS (NEXT (REGION [0, 1, 2] rfl (RUN0 3 [] [(0, I (wr (Int.tdiv m 10))), (3, B (decide (n < 0))), (4, .v (.string (bs (([byteOf (wr (48 + (Int.tmod m 10)))] : List UInt8) ++ out))))] ?_ rfl ?_)))
        · as_aux_lemma => kernel_rfl
        refine ENDOPS (OUTN (BACK (wr (Int.tdiv m 10), ([byteOf (wr (48 + (Int.tmod m 10)))] : List UInt8) ++ out) [0, 3, 4] 0 [] _ ⟨(quo10 hm).1, by rw [← hv, (quo10 hm).2, ddz_step (u := m.natAbs) (by omega)]; first | (rw [dig_pos hm (by assumption)]; simp) | (rw [dig_neg hm (by assumption)]; simp)⟩ (by have := (quo10 hm).2; dsimp only; omega) ?_ rfl rfl rfl))
        · as_aux_lemma => kernel_rfl
    · -- m != 0 = false
      have h2 := bh2
      have h2 := bneF h2
      refine EXIT (PASS trivial (PASS trivial (OUT (NEXT (SEQ (SEQ (REGION [0] rfl (RUN0 1 [] [(4, .v (.string (bs out))), (27, B (decide (n < 0)))] ?_ rfl ?_))))))))
      · as_aux_lemma => kernel_rfl
      refine ENDOPS (NEXT (IF (decide (n < 0)) ?_ (fun bh10 => ?_) (fun bh10 => ?_)))
      · as_aux_lemma => kernel_rfl
      · -- decide (n < 0) = true
        have h10 := bh10
        have h10 := of_decide_eq_true h10
        refine SEQ (REGION [0, 1, 2] rfl (RUN0 1 [1, 2] [(28, .v (.string (bs out)))] ?_ rfl ?_))
        · as_aux_lemma => kernel_rfl
        refine OPC (RUNV (.binOp .add 9 (.const (.string (bs ([45])))) (.tmp 28) 9) 29 9 ?_ (Nat.le_of_ble_eq_true rfl) (.string (bs (([45]) ++ out))) (runs_scat (a := [45]) (b := out) ?_ ?_ (by first | omega | (simp only [List.length_append, List.length_cons, List.length_nil, List.length_take, List.length_drop] at *; omega))) ?_)
        · as_aux_lemma => kernel_rfl
        · as_aux_lemma => kernel_rfl
        · as_aux_lemma => kernel_rfl
        refine RUN0 1 [] [(2, .v (.string (bs (([45]) ++ out))))] ?_ rfl ?_
        · as_aux_lemma => kernel_rfl
        refine ENDOPS (NEXT (RET (PASS trivial (FIN (.string (bs (([45]) ++ out))) ?_ () ?_ [] ?_))))
        · as_aux_lemma => kernel_rfl
        · (show Value.string _ = Value.string (bs (Lib.itoa n)); congr 2; first | (subst_vars; exact itoa_zero.symm) | (rw [itoa_of (by assumption), ← hv]; simp_all [ddz]))
        · rfl
      · -- decide (n < 0) = false
        have h10 := bh10
        have h10 := of_decide_eq_false h10
        refine SKIP (NEXT (SEQ (REGION [0, 1] rfl (RUN0 2 [] [(2, .v (.string (bs out)))] ?_ rfl ?_))))
        · as_aux_lemma => kernel_rfl
        refine ENDOPS (NEXT (RET (FIN (.string (bs out)) ?_ () ?_ [] ?_)))
        · as_aux_lemma => kernel_rfl
        · (show Value.string _ = Value.string (bs (Lib.itoa n)); congr 2; first | (subst_vars; exact itoa_zero.symm) | (rw [itoa_of (by assumption), ← hv]; simp_all [ddz]))
        · rfl

theorem l29Word_c (W : World) (kind : Int) (hk : 0 ≤ kind ∧ kind < 8) : Spec Tryd.prog W [] 38 #[vi kind] (RV (.string (bs (reqWord kind)))) := by
  refine ENTER0 (N := 7) (vs := [vi kind]) Tryd.func38 rfl rfl (Nat.le_of_ble_eq_true rfl) ?_
  refine SEQ (REGION [0] rfl (RUN0 1 [] [(0, I kind)] ?_ rfl ?_))
  · as_aux_lemma => kernel_rfl
  refine ENDOPS (NEXT (SEQ (REGION [0, 1, 2, 3, 4] rfl (OPC (BUILDS 56 8 #[(0, .const (.string (bs ([])))), (1, .const (.string (bs ([106, 111, 105, 110])))), (2, .const (.string (bs ([99, 97, 110, 99, 101, 108])))), (3, .const (.string (bs ([102, 114, 101, 101])))), (4, .const (.string (bs ([97, 99, 99, 101, 112, 116])))), (5, .const (.string (bs ([100, 101, 99, 108, 105, 110, 101])))), (6, .const (.string (bs ([116, 105, 99, 107])))), (7, .const (.string (bs ([112, 105, 99, 107]))))] 3 56 ?_ (Nat.le_of_ble_eq_true rfl) 9 [.string (bs ([])), .string (bs ([106, 111, 105, 110])), .string (bs ([99, 97, 110, 99, 101, 108])), .string (bs ([102, 114, 101, 101])), .string (bs ([97, 99, 99, 101, 112, 116])), .string (bs ([100, 101, 99, 108, 105, 110, 101])), .string (bs ([116, 105, 99, 107])), .string (bs ([112, 105, 99, 107]))] ?_ strL ([[], [106, 111, 105, 110], [99, 97, 110, 99, 101, 108], [102, 114, 101, 101], [97, 99, 99, 101, 112, 116], [100, 101, 99, 108, 105, 110, 101], [116, 105, 99, 107], [112, 105, 99, 107]] : List (List UInt8)) rfl (by simp only [maxLen]; omega) [] [] _ rfl (flatRep rfl) (fun a1 ha2 => ?_))))))
  · as_aux_lemma => kernel_rfl
  · as_aux_lemma => kernel_rfl
  refine RUN0 1 [2, 3, 4] [(3, .v (.slice a1 8 8)), (4, I kind)] ?_ rfl ?_
  · as_aux_lemma => kernel_rfl
  refine FACT (8 = ([[], [106, 111, 105, 110], [99, 97, 110, 99, 101, 108], [102, 114, 101, 101], [97, 99, 99, 101, 112, 116], [100, 101, 99, 108, 105, 110, 101], [116, 105, 99, 107], [112, 105, 99, 107]] : List (List UInt8)).length) (fun w hw => (SlO.lenE (hw.own 0 rfl)).1) (fun hln3 => ?_)
  obtain ⟨x4, hx5⟩ : ∃ y, ([[], [106, 111, 105, 110], [99, 97, 110, 99, 101, 108], [102, 114, 101, 101], [97, 99, 99, 101, 112, 116], [100, 101, 99, 108, 105, 110, 101], [116, 105, 99, 107], [112, 105, 99, 107]] : List (List UInt8))[kind.toNat]? = some y := ⟨_, List.getElem?_eq_getElem (by omega)⟩
  refine OPC (INDEX 56 (.tmp 3) (.tmp 4) 5 0 ?_ (Nat.le_of_ble_eq_true rfl) a1 8 8 .i64 kind 9 1 ?_ ?_ ?_ ?_ ha2 (by omega) (by omega) ?_)
  · as_aux_lemma => kernel_rfl
  · as_aux_lemma => kernel_rfl
  · as_aux_lemma => kernel_rfl
  · as_aux_lemma => kernel_rfl
  · as_aux_lemma => kernel_rfl
  refine OPC (LOADE 9 (.tmp 5) 6 9 ?_ (Nat.le_of_ble_eq_true rfl) a1 (kind.toNat * 1) 0 [.string (bs x4)] (.string (bs x4)) ?_ (fun w hw => (Rd.own (hw.own 0 rfl)).flat hx5) ?_ ?_)
  · as_aux_lemma => kernel_rfl
  · as_aux_lemma => kernel_rfl
  · as_aux_lemma => kernel_rfl
  refine RUN0 1 [] [(2, .v (.string (bs x4)))] ?_ rfl ?_
  · as_aux_lemma => kernel_rfl
  refine ENDOPS (NEXT (RET (FIN (.string (bs x4)) ?_ () ?_ [] ?_)))
  · as_aux_lemma => kernel_rfl
  · (rw [reqWord_of hx5]; rfl)
  · rfl

theorem iReqLine_c (W : World) (q : Req) (htab : Tab Tryd.prog W) : Spec Tryd.prog W [] 15 #[.agg #[vi q.kind, vi q.id, vi q.cabin, vi q.from', vi q.size, vi q.tier]] (RV (.string (bs (reqLine q)))) := by
  refine ENTER0 (N := 74) (vs := [.agg #[vi q.kind, vi q.id, vi q.cabin, vi q.from', vi q.size, vi q.tier]]) Tryd.func15 rfl rfl (Nat.le_of_ble_eq_true rfl) ?_
  refine SEQ (REGION [0, 1] rfl (RUN 2 [] [(1, .p 0 0)] [(34, [vi q.kind, vi q.id, vi q.cabin, vi q.from', vi q.size, vi q.tier])] ?_ rfl ?_))
  · as_aux_lemma => kernel_rfl
  refine ENDOPS (NEXT (SEQ (SEQ (REGION [0, 1, 2] rfl (RUN0 1 [1, 2] [(1, .p 0 0), (4, .v (.agg #[vi q.kind, vi q.id, vi q.cabin, vi q.from', vi q.size, vi q.tier]))] ?_ rfl ?_)))))
  · as_aux_lemma => kernel_rfl
  refine OPC (CALL 39 #[.agg #[vi q.kind, vi q.id, vi q.cabin, vi q.from', vi q.size, vi q.tier]] (some 5) ?_ [] [] _ rfl (RV (.bool (reqOk q))) (fun w hw => iReqOk_c w q) (by rintro _ ⟨⟩; exact Nat.le_of_ble_eq_true rfl) ?_)
  · as_aux_lemma => kernel_rfl
  rintro ⟨⟩
  refine RUN0 1 [] [(1, .p 0 0), (6, B (!(reqOk q)))] ?_ rfl ?_
  · as_aux_lemma => kernel_rfl
  refine ENDOPS (NEXT (IF (!(reqOk q)) ?_ (fun bh1 => ?_) (fun bh1 => ?_)))
  · as_aux_lemma => kernel_rfl
  · -- !(reqOk q) = true
    have h1 := bh1
    have h1 := notT h1
    refine SEQ (REGION [0] rfl (RUN0 1 [] [(2, .v (.string (bs ([]))))] ?_ rfl ?_))
    · as_aux_lemma => kernel_rfl
    refine ENDOPS (NEXT (RET (PASS trivial (FIN (.string (bs ([]))) ?_ () ?_ [] ?_))))
    · as_aux_lemma => kernel_rfl
    · (first | (simp [RV, reqLine, reqWord, reqWords, *]; done) | (have h7 : q.kind = 7 := (by omega); simp [RV, reqLine, reqWord, reqWords, *]; done) | (have h9 : ¬ q.from' = -1 := (by omega); simp [RV, reqLine, reqWord, reqWords, *]; done) | (have h9 : q.from' = -1 := (by omega); simp [RV, reqLine, reqWord, reqWords, *]))
    · rfl
  · -- !(reqOk q) = false
    have h1 := bh1
    have h1 := notF h1
    have hq := reqOk_rng h1
    refine SKIP (NEXT (SEQ (SEQ (REGION [0, 1] rfl (RUN0 2 [] [(1, .p 0 0), (8, I q.kind)] ?_ rfl ?_)))))
    · as_aux_lemma => kernel_rfl
    refine ENDOPS (NEXT (BLOCK (SEQ (REGION [0, 1] rfl (RUN0 2 [] [(1, .p 0 0), (8, I q.kind), (9, B (q.kind == 1))] ?_ rfl ?_)))))
    · as_aux_lemma => kernel_rfl
    refine ENDOPS (NEXT (IF (q.kind == 1) ?_ (fun bh2 => ?_) (fun bh2 => ?_)))
    · as_aux_lemma => kernel_rfl
    · -- q.kind == 1 = true
      have h2 := bh2
      have h2 := eq_of_beq h2
      refine SEQ (REGION [0] rfl (RUN0 1 [] [(1, .p 0 0), (3, .v (.string (bs ([45]))))] ?_ rfl ?_))
      · as_aux_lemma => kernel_rfl
      refine ENDOPS (NEXT (SEQ (SEQ (REGION [0, 1, 2] rfl (RUN0 3 [] [(1, .p 0 0), (3, .v (.string (bs ([45])))), (13, B (q.from' != (-1)))] ?_ rfl ?_)))))
      · as_aux_lemma => kernel_rfl
      refine ENDOPS (NEXT (IF (q.from' != (-1)) ?_ (fun bh3 => ?_) (fun bh3 => ?_)))
      · as_aux_lemma => kernel_rfl
      · -- q.from' != (-1) = true
        have h3 := bh3
        have h3 := bne_iff_ne.1 h3
        refine REGION [0, 1, 2, 3] rfl (RUN0 2 [2, 3] [(1, .p 0 0), (15, I q.from')] ?_ rfl ?_)
        · as_aux_lemma => kernel_rfl
        refine OPC (CALL 35 #[vi q.from'] (some 16) ?_ [] [] _ rfl (RV (.string (bs (Lib.itoa q.from')))) (fun w hw => iDigits_c w q.from' (by first | assumption | exact wr_range _ | (unfold i64R at *; omega) | (simp only [i64R] at *; omega)) (htab.fr hw.fr)) (by rintro _ ⟨⟩; exact Nat.le_of_ble_eq_true rfl) ?_)
        · as_aux_lemma => kernel_rfl
        rintro ⟨⟩
        have hr4 := itoa_len (n := q.from') (by first | assumption | exact wr_range _ | (unfold i64R at *; omega) | (simp only [i64R] at *; omega))
        refine RUN0 1 [] [(1, .p 0 0), (3, .v (.string (bs (Lib.itoa q.from'))))] ?_ rfl ?_
        · as_aux_lemma => kernel_rfl
        refine ENDOPS (NEXT (SEQ (REGIONQ ?_ ?_ ?_)))
        · as_aux_lemma => kernel_rfl
        · as_aux_lemma => kernel_rfl
        refine QRUN 2 0 2 [(1, .p 0 0), (3, .v (.string (bs (Lib.itoa q.from')))), (18, I q.id)] ?_ rfl ?_
        · as_aux_lemma => kernel_rfl
        have hr5 := itoa_len (n := q.id) (by first | assumption | exact wr_range _ | (unfold i64R at *; omega) | (simp only [i64R] at *; omega))
        refine QCALL 35 #[vi q.id] (some 19) ?_ (.string (bs (Lib.itoa q.id))) (fun w hw => iDigits_c w q.id (by first | assumption | exact wr_range _ | (unfold i64R at *; omega) | (simp only [i64R] at *; omega)) (htab.fr hw.fr)) (by rintro _ ⟨⟩; exact Nat.le_of_ble_eq_true rfl) ?_
        · as_aux_lemma => kernel_rfl
        refine QRUNV (.binOp .add 9 (.const (.string (bs ([106, 111, 105, 110, 32])))) (.tmp 19) 9) 20 9 ?_ (Nat.le_of_ble_eq_true rfl) (.string (bs (([106, 111, 105, 110, 32]) ++ (Lib.itoa q.id)))) (runs_scat (a := [106, 111, 105, 110, 32]) (b := Lib.itoa q.id) ?_ ?_ (by first | omega | (simp only [List.length_append, List.length_cons, List.length_nil, List.length_take, List.length_drop] at *; omega))) ?_
        · as_aux_lemma => kernel_rfl
        · as_aux_lemma => kernel_rfl
        · as_aux_lemma => kernel_rfl
        refine QRUNV (.binOp .add 9 (.tmp 20) (.const (.string (bs ([32])))) 9) 21 9 ?_ (Nat.le_of_ble_eq_true rfl) (.string (bs ((([106, 111, 105, 110, 32]) ++ (Lib.itoa q.id)) ++ ([32])))) (runs_scat (a := ([106, 111, 105, 110, 32]) ++ (Lib.itoa q.id)) (b := [32]) ?_ ?_ (by first | omega | (simp only [List.length_append, List.length_cons, List.length_nil, List.length_take, List.length_drop] at *; omega))) ?_
        · as_aux_lemma => kernel_rfl
        · as_aux_lemma => kernel_rfl
        · as_aux_lemma => kernel_rfl
        refine QRUN 2 5 7 [(1, .p 0 0), (3, .v (.string (bs (Lib.itoa q.from')))), (21, .v (.string (bs ((([106, 111, 105, 110, 32]) ++ (Lib.itoa q.id)) ++ ([32]))))), (23, I q.cabin)] ?_ rfl ?_
        · as_aux_lemma => kernel_rfl
        have hr6 := itoa_len (n := q.cabin) (by first | assumption | exact wr_range _ | (unfold i64R at *; omega) | (simp only [i64R] at *; omega))
        refine QCALL 35 #[vi q.cabin] (some 24) ?_ (.string (bs (Lib.itoa q.cabin))) (fun w hw => iDigits_c w q.cabin (by first | assumption | exact wr_range _ | (unfold i64R at *; omega) | (simp only [i64R] at *; omega)) (htab.fr hw.fr)) (by rintro _ ⟨⟩; exact Nat.le_of_ble_eq_true rfl) ?_
        · as_aux_lemma => kernel_rfl
        refine QRUNV (.binOp .add 9 (.tmp 21) (.tmp 24) 9) 25 9 ?_ (Nat.le_of_ble_eq_true rfl) (.string (bs (((([106, 111, 105, 110, 32]) ++ (Lib.itoa q.id)) ++ ([32])) ++ (Lib.itoa q.cabin)))) (runs_scat (a := (([106, 111, 105, 110, 32]) ++ (Lib.itoa q.id)) ++ ([32])) (b := Lib.itoa q.cabin) ?_ ?_ (by first | omega | (simp only [List.length_append, List.length_cons, List.length_nil, List.length_take, List.length_drop] at *; omega))) ?_
        · as_aux_lemma => kernel_rfl
        · as_aux_lemma => kernel_rfl
        · as_aux_lemma => kernel_rfl
        refine QRUNV (.binOp .add 9 (.tmp 25) (.const (.string (bs ([32])))) 9) 26 9 ?_ (Nat.le_of_ble_eq_true rfl) (.string (bs ((((([106, 111, 105, 110, 32]) ++ (Lib.itoa q.id)) ++ ([32])) ++ (Lib.itoa q.cabin)) ++ ([32])))) (runs_scat (a := ((([106, 111, 105, 110, 32]) ++ (Lib.itoa q.id)) ++ ([32])) ++ (Lib.itoa q.cabin)) (b := [32]) ?_ ?_ (by first | omega | (simp only [List.length_append, List.length_cons, List.length_nil, List.length_take, List.length_drop] at *; omega))) ?_
        · as_aux_lemma => kernel_rfl
        · as_aux_lemma => kernel_rfl
        · as_aux_lemma => kernel_rfl
        refine QRUN 1 10 11 [(1, .p 0 0), (26, .v (.string (bs ((((([106, 111, 105, 110, 32]) ++ (Lib.itoa q.id)) ++ ([32])) ++ (Lib.itoa q.cabin)) ++ ([32]))))), (27, .v (.string (bs (Lib.itoa q.from'))))] ?_ rfl ?_
        · as_aux_lemma => kernel_rfl
        refine QRUNV (.binOp .add 9 (.tmp 26) (.tmp 27) 9) 28 9 ?_ (Nat.le_of_ble_eq_true rfl) (.string (bs (((((([106, 111, 105, 110, 32]) ++ (Lib.itoa q.id)) ++ ([32])) ++ (Lib.itoa q.cabin)) ++ ([32])) ++ (Lib.itoa q.from')))) (runs_scat (a := (((([106, 111, 105, 110, 32]) ++ (Lib.itoa q.id)) ++ ([32])) ++ (Lib.itoa q.cabin)) ++ ([32])) (b := Lib.itoa q.from') ?_ ?_ (by first | omega | (simp only [List.length_append, List.length_cons, List.length_nil, List.length_take, List.length_drop] at *; omega))) ?_
        · as_aux_lemma => kernel_rfl
        · as_aux_lemma => kernel_rfl
        · as_aux_lemma => kernel_rfl
        refine QRUNV (.binOp .add 9 (.tmp 28) (.const (.string (bs ([32])))) 9) 29 9 ?_ (Nat.le_of_ble_eq_true rfl) (.string (bs ((((((([106, 111, 105, 110, 32]) ++ (Lib.itoa q.id)) ++ ([32])) ++ (Lib.itoa q.cabin)) ++ ([32])) ++ (Lib.itoa q.from')) ++ ([32])))) (runs_scat (a := ((((([106, 111, 105, 110, 32]) ++ (Lib.itoa q.id)) ++ ([32])) ++ (Lib.itoa q.cabin)) ++ ([32])) ++ (Lib.itoa q.from')) (b := [32]) ?_ ?_ (by first | omega | (simp only [List.length_append, List.length_cons, List.length_nil, List.length_take, List.length_drop] at *; omega))) ?_
        · as_aux_lemma => kernel_rfl
        · as_aux_lemma => kernel_rfl
        · as_aux_lemma => kernel_rfl
        refine QRUN 2 13 15 [(1, .p 0 0), (29, .v (.string (bs ((((((([106, 111, 105, 110, 32]) ++ (Lib.itoa q.id)) ++ ([32])) ++ (Lib.itoa q.cabin)) ++ ([32])) ++ (Lib.itoa q.from')) ++ ([32]))))), (31, I q.size)] ?_ rfl ?_
        · as_aux_lemma => kernel_rfl
        have hr7 := itoa_len (n := q.size) (by first | assumption | exact wr_range _ | (unfold i64R at *; omega) | (simp only [i64R] at *; omega))
        refine QCALL 35 #[vi q.size] (some 32) ?_ (.string (bs (Lib.itoa q.size))) (fun w hw => iDigits_c w q.size (by first | assumption | exact wr_range _ | (unfold i64R at *; omega) | (simp only [i64R] at *; omega)) (htab.fr hw.fr)) (by rintro _ ⟨⟩; exact Nat.le_of_ble_eq_true rfl) ?_
        · as_aux_lemma => kernel_rfl
        refine QRUNV (.binOp .add 9 (.tmp 29) (.tmp 32) 9) 33 9 ?_ (Nat.le_of_ble_eq_true rfl) (.string (bs (((((((([106, 111, 105, 110, 32]) ++ (Lib.itoa q.id)) ++ ([32])) ++ (Lib.itoa q.cabin)) ++ ([32])) ++ (Lib.itoa q.from')) ++ ([32])) ++ (Lib.itoa q.size)))) (runs_scat (a := (((((([106, 111, 105, 110, 32]) ++ (Lib.itoa q.id)) ++ ([32])) ++ (Lib.itoa q.cabin)) ++ ([32])) ++ (Lib.itoa q.from')) ++ ([32])) (b := Lib.itoa q.size) ?_ ?_ (by first | omega | (simp only [List.length_append, List.length_cons, List.length_nil, List.length_take, List.length_drop] at *; omega))) ?_
        · as_aux_lemma => kernel_rfl
        · as_aux_lemma => kernel_rfl
        · as_aux_lemma => kernel_rfl
        refine QRUNV (.binOp .add 9 (.tmp 33) (.const (.string (bs ([32])))) 9) 34 9 ?_ (Nat.le_of_ble_eq_true rfl) (.string (bs ((((((((([106, 111, 105, 110, 32]) ++ (Lib.itoa q.id)) ++ ([32])) ++ (Lib.itoa q.cabin)) ++ ([32])) ++ (Lib.itoa q.from')) ++ ([32])) ++ (Lib.itoa q.size)) ++ ([32])))) (runs_scat (a := ((((((([106, 111, 105, 110, 32]) ++ (Lib.itoa q.id)) ++ ([32])) ++ (Lib.itoa q.cabin)) ++ ([32])) ++ (Lib.itoa q.from')) ++ ([32])) ++ (Lib.itoa q.size)) (b := [32]) ?_ ?_ (by first | omega | (simp only [List.length_append, List.length_cons, List.length_nil, List.length_take, List.length_drop] at *; omega))) ?_
        · as_aux_lemma => kernel_rfl
        · as_aux_lemma => kernel_rfl
        · as_aux_lemma => kernel_rfl
        refine QRUN 2 18 20 [(34, .v (.string (bs ((((((((([106, 111, 105, 110, 32]) ++ (Lib.itoa q.id)) ++ ([32])) ++ (Lib.itoa q.cabin)) ++ ([32])) ++ (Lib.itoa q.from')) ++ ([32])) ++ (Lib.itoa q.size)) ++ ([32]))))), (36, I q.tier)] ?_ rfl ?_
        · as_aux_lemma => kernel_rfl
        have hr8 := itoa_len (n := q.tier) (by first | assumption | exact wr_range _ | (unfold i64R at *; omega) | (simp only [i64R] at *; omega))
        refine QCALL 35 #[vi q.tier] (some 37) ?_ (.string (bs (Lib.itoa q.tier))) (fun w hw => iDigits_c w q.tier (by first | assumption | exact wr_range _ | (unfold i64R at *; omega) | (simp only [i64R] at *; omega)) (htab.fr hw.fr)) (by rintro _ ⟨⟩; exact Nat.le_of_ble_eq_true rfl) ?_
        · as_aux_lemma => kernel_rfl
        refine QRUNV (.binOp .add 9 (.tmp 34) (.tmp 37) 9) 38 9 ?_ (Nat.le_of_ble_eq_true rfl) (.string (bs (((((((((([106, 111, 105, 110, 32]) ++ (Lib.itoa q.id)) ++ ([32])) ++ (Lib.itoa q.cabin)) ++ ([32])) ++ (Lib.itoa q.from')) ++ ([32])) ++ (Lib.itoa q.size)) ++ ([32])) ++ (Lib.itoa q.tier)))) (runs_scat (a := (((((((([106, 111, 105, 110, 32]) ++ (Lib.itoa q.id)) ++ ([32])) ++ (Lib.itoa q.cabin)) ++ ([32])) ++ (Lib.itoa q.from')) ++ ([32])) ++ (Lib.itoa q.size)) ++ ([32])) (b := Lib.itoa q.tier) ?_ ?_ (by first | omega | (simp only [List.length_append, List.length_cons, List.length_nil, List.length_take, List.length_drop] at *; omega))) ?_
        · as_aux_lemma => kernel_rfl
        · as_aux_lemma => kernel_rfl
        · as_aux_lemma => kernel_rfl
        refine QRUN 1 22 23 [(2, .v (.string (bs (((((((((([106, 111, 105, 110, 32]) ++ (Lib.itoa q.id)) ++ ([32])) ++ (Lib.itoa q.cabin)) ++ ([32])) ++ (Lib.itoa q.from')) ++ ([32])) ++ (Lib.itoa q.size)) ++ ([32])) ++ (Lib.itoa q.tier)))))] ?_ rfl ?_
        · as_aux_lemma => kernel_rfl
        refine QEND rfl (NEXT (RET (OUTR (PASS trivial (FIN (.string (bs (((((((((([106, 111, 105, 110, 32]) ++ (Lib.itoa q.id)) ++ ([32])) ++ (Lib.itoa q.cabin)) ++ ([32])) ++ (Lib.itoa q.from')) ++ ([32])) ++ (Lib.itoa q.size)) ++ ([32])) ++ (Lib.itoa q.tier)))) ?_ () ?_ [] ?_)))))
        · as_aux_lemma => kernel_rfl
        · (first | (simp [RV, reqLine, reqWord, reqWords, *]; done) | (have h7 : q.kind = 7 := (by omega); simp [RV, reqLine, reqWord, reqWords, *]; done) | (have h9 : ¬ q.from' = -1 := (by omega); simp [RV, reqLine, reqWord, reqWords, *]; done) | (have h9 : q.from' = -1 := (by omega); simp [RV, reqLine, reqWord, reqWords, *]))
        · rfl
      · -- q.from' != (-1) = false
        have h3 := bh3
        have h3 := bneF h3
        refine SKIP (NEXT (SEQ (REGIONQ ?_ ?_ ?_)))
        · as_aux_lemma => kernel_rfl
        · as_aux_lemma => kernel_rfl
        refine QRUN 2 0 2 [(1, .p 0 0), (3, .v (.string (bs ([45])))), (18, I q.id)] ?_ rfl ?_
        · as_aux_lemma => kernel_rfl
        have hr9 := itoa_len (n := q.id) (by first | assumption | exact wr_range _ | (unfold i64R at *; omega) | (simp only [i64R] at *; omega))
        refine QCALL 35 #[vi q.id] (some 19) ?_ (.string (bs (Lib.itoa q.id))) (fun w hw => iDigits_c w q.id (by first | assumption | exact wr_range _ | (unfold i64R at *; omega) | (simp only [i64R] at *; omega)) (htab.fr hw.fr)) (by rintro _ ⟨⟩; exact Nat.le_of_ble_eq_true rfl) ?_
        · as_aux_lemma => kernel_rfl
        refine QRUNV (.binOp .add 9 (.const (.string (bs ([106, 111, 105, 110, 32])))) (.tmp 19) 9) 20 9 ?_ (Nat.le_of_ble_eq_true rfl) (.string (bs (([106, 111, 105, 110, 32]) ++ (Lib.itoa q.id)))) (runs_scat (a := [106, 111, 105, 110, 32]) (b := Lib.itoa q.id) ?_ ?_ (by first | omega | (simp only [List.length_append, List.length_cons, List.length_nil, List.length_take, List.length_drop] at *; omega))) ?_
        · as_aux_lemma => kernel_rfl
        · as_aux_lemma => kernel_rfl
        · as_aux_lemma => kernel_rfl
        refine QRUNV (.binOp .add 9 (.tmp 20) (.const (.string (bs ([32])))) 9) 21 9 ?_ (Nat.le_of_ble_eq_true rfl) (.string (bs ((([106, 111, 105, 110, 32]) ++ (Lib.itoa q.id)) ++ ([32])))) (runs_scat (a := ([106, 111, 105, 110, 32]) ++ (Lib.itoa q.id)) (b := [32]) ?_ ?_ (by first | omega | (simp only [List.length_append, List.length_cons, List.length_nil, List.length_take, List.length_drop] at *; omega))) ?_
        · as_aux_lemma => kernel_rfl
        · as_aux_lemma => kernel_rfl
        · as_aux_lemma => kernel_rfl
        refine QRUN 2 5 7 [(1, .p 0 0), (3, .v (.string (bs ([45])))), (21, .v (.string (bs ((([106, 111, 105, 110, 32]) ++ (Lib.itoa q.id)) ++ ([32]))))), (23, I q.cabin)] ?_ rfl ?_
        · as_aux_lemma => kernel_rfl
        have hr10 := itoa_len (n := q.cabin) (by first | assumption | exact wr_range _ | (unfold i64R at *; omega) | (simp only [i64R] at *; omega))
        refine QCALL 35 #[vi q.cabin] (some 24) ?_ (.string (bs (Lib.itoa q.cabin))) (fun w hw => iDigits_c w q.cabin (by first | assumption | exact wr_range _ | (unfold i64R at *; omega) | (simp only [i64R] at *; omega)) (htab.fr hw.fr)) (by rintro _ ⟨⟩; exact Nat.le_of_ble_eq_true rfl) ?_
        · as_aux_lemma => kernel_rfl
        refine QRUNV (.binOp .add 9 (.tmp 21) (.tmp 24) 9) 25 9 ?_ (Nat.le_of_ble_eq_true rfl) (.string (bs (((([106, 111, 105, 110, 32]) ++ (Lib.itoa q.id)) ++ ([32])) ++ (Lib.itoa q.cabin)))) (runs_scat (a := (([106, 111, 105, 110, 32]) ++ (Lib.itoa q.id)) ++ ([32])) (b := Lib.itoa q.cabin) ?_ ?_ (by first | omega | (simp only [List.length_append, List.length_cons, List.length_nil, List.length_take, List.length_drop] at *; omega))) ?_
        · as_aux_lemma => kernel_rfl
        · as_aux_lemma => kernel_rfl
        · as_aux_lemma => kernel_rfl
        refine QRUNV (.binOp .add 9 (.tmp 25) (.const (.string (bs ([32])))) 9) 26 9 ?_ (Nat.le_of_ble_eq_true rfl) (.string (bs ((((([106, 111, 105, 110, 32]) ++ (Lib.itoa q.id)) ++ ([32])) ++ (Lib.itoa q.cabin)) ++ ([32])))) (runs_scat (a := ((([106, 111, 105, 110, 32]) ++ (Lib.itoa q.id)) ++ ([32])) ++ (Lib.itoa q.cabin)) (b := [32]) ?_ ?_ (by first | omega | (simp only [List.length_append, List.length_cons, List.length_nil, List.length_take, List.length_drop] at *; omega))) ?_
        · as_aux_lemma => kernel_rfl
        · as_aux_lemma => kernel_rfl
        · as_aux_lemma => kernel_rfl
        refine QRUN 1 10 11 [(1, .p 0 0), (26, .v (.string (bs ((((([106, 111, 105, 110, 32]) ++ (Lib.itoa q.id)) ++ ([32])) ++ (Lib.itoa q.cabin)) ++ ([32]))))), (27, .v (.string (bs ([45]))))] ?_ rfl ?_
        · as_aux_lemma => kernel_rfl
        refine QRUNV (.binOp .add 9 (.tmp 26) (.tmp 27) 9) 28 9 ?_ (Nat.le_of_ble_eq_true rfl) (.string (bs (((((([106, 111, 105, 110, 32]) ++ (Lib.itoa q.id)) ++ ([32])) ++ (Lib.itoa q.cabin)) ++ ([32])) ++ ([45])))) (runs_scat (a := (((([106, 111, 105, 110, 32]) ++ (Lib.itoa q.id)) ++ ([32])) ++ (Lib.itoa q.cabin)) ++ ([32])) (b := [45]) ?_ ?_ (by first | omega | (simp only [List.length_append, List.length_cons, List.length_nil, List.length_take, List.length_drop] at *; omega))) ?_
        · as_aux_lemma => kernel_rfl
        · as_aux_lemma => kernel_rfl
        · as_aux_lemma => kernel_rfl
        refine QRUNV (.binOp .add 9 (.tmp 28) (.const (.string (bs ([32])))) 9) 29 9 ?_ (Nat.le_of_ble_eq_true rfl) (.string (bs ((((((([106, 111, 105, 110, 32]) ++ (Lib.itoa q.id)) ++ ([32])) ++ (Lib.itoa q.cabin)) ++ ([32])) ++ ([45])) ++ ([32])))) (runs_scat (a := ((((([106, 111, 105, 110, 32]) ++ (Lib.itoa q.id)) ++ ([32])) ++ (Lib.itoa q.cabin)) ++ ([32])) ++ ([45])) (b := [32]) ?_ ?_ (by first | omega | (simp only [List.length_append, List.length_cons, List.length_nil, List.length_take, List.length_drop] at *; omega))) ?_
        · as_aux_lemma => kernel_rfl
        · as_aux_lemma => kernel_rfl
        · as_aux_lemma => kernel_rfl
        refine QRUN 2 13 15 [(1, .p 0 0), (29, .v (.string (bs ((((((([106, 111, 105, 110, 32]) ++ (Lib.itoa q.id)) ++ ([32])) ++ (Lib.itoa q.cabin)) ++ ([32])) ++ ([45])) ++ ([32]))))), (31, I q.size)] ?_ rfl ?_
        · as_aux_lemma => kernel_rfl
        have hr11 := itoa_len (n := q.size) (by first | assumption | exact wr_range _ | (unfold i64R at *; omega) | (simp only [i64R] at *; omega))
        refine QCALL 35 #[vi q.size] (some 32) ?_ (.string (bs (Lib.itoa q.size))) (fun w hw => iDigits_c w q.size (by first | assumption | exact wr_range _ | (unfold i64R at *; omega) | (simp only [i64R] at *; omega)) (htab.fr hw.fr)) (by rintro _ ⟨⟩; exact Nat.le_of_ble_eq_true rfl) ?_
        · as_aux_lemma => kernel_rfl
        refine QRUNV (.binOp .add 9 (.tmp 29) (.tmp 32) 9) 33 9 ?_ (Nat.le_of_ble_eq_true rfl) (.string (bs (((((((([106, 111, 105, 110, 32]) ++ (Lib.itoa q.id)) ++ ([32])) ++ (Lib.itoa q.cabin)) ++ ([32])) ++ ([45])) ++ ([32])) ++ (Lib.itoa q.size)))) (runs_scat (a := (((((([106, 111, 105, 110, 32]) ++ (Lib.itoa q.id)) ++ ([32])) ++ (Lib.itoa q.cabin)) ++ ([32])) ++ ([45])) ++ ([32])) (b := Lib.itoa q.size) ?_ ?_ (by first | omega | (simp only [List.length_append, List.length_cons, List.length_nil, List.length_take, List.length_drop] at *; omega))) ?_
        · as_aux_lemma => kernel_rfl
        · as_aux_lemma => kernel_rfl
        · as_aux_lemma => kernel_rfl
        refine QRUNV (.binOp .add 9 (.tmp 33) (.const (.string (bs ([32])))) 9) 34 9 ?_ (Nat.le_of_ble_eq_true rfl) (.string (bs ((((((((([106, 111, 105, 110, 32]) ++ (Lib.itoa q.id)) ++ ([32])) ++ (Lib.itoa q.cabin)) ++ ([32])) ++ ([45])) ++ ([32])) ++ (Lib.itoa q.size)) ++ ([32])))) (runs_scat (a := ((((((([106, 111, 105, 110, 32]) ++ (Lib.itoa q.id)) ++ ([32])) ++ (Lib.itoa q.cabin)) ++ ([32])) ++ ([45])) ++ ([32])) ++ (Lib.itoa q.size)) (b := [32]) ?_ ?_ (by first | omega | (simp only [List.length_append, List.length_cons, List.length_nil, List.length_take, List.length_drop] at *; omega))) ?_
        · as_aux_lemma => kernel_rfl
        · as_aux_lemma => kernel_rfl
        · as_aux_lemma => kernel_rfl
        refine QRUN 2 18 20 [(34, .v (.string (bs ((((((((([106, 111, 105, 110, 32]) ++ (Lib.itoa q.id)) ++ ([32])) ++ (Lib.itoa q.cabin)) ++ ([32])) ++ ([45])) ++ ([32])) ++ (Lib.itoa q.size)) ++ ([32]))))), (36, I q.tier)] ?_ rfl ?_
        · as_aux_lemma => kernel_rfl
        have hr12 := itoa_len (n := q.tier) (by first | assumption | exact wr_range _ | (unfold i64R at *; omega) | (simp only [i64R] at *; omega))
        refine QCALL 35 #[vi q.tier] (some 37) ?_ (.string (bs (Lib.itoa q.tier))) (fun w hw => iDigits_c w q.tier (by first | assumption | exact wr_range _ | (unfold i64R at *; omega) | (simp only [i64R] at *; omega)) (htab.fr hw.fr)) (by rintro _ ⟨⟩; exact Nat.le_of_ble_eq_true rfl) ?_
        · as_aux_lemma => kernel_rfl
        refine QRUNV (.binOp .add 9 (.tmp 34) (.tmp 37) 9) 38 9 ?_ (Nat.le_of_ble_eq_true rfl) (.string (bs (((((((((([106, 111, 105, 110, 32]) ++ (Lib.itoa q.id)) ++ ([32])) ++ (Lib.itoa q.cabin)) ++ ([32])) ++ ([45])) ++ ([32])) ++ (Lib.itoa q.size)) ++ ([32])) ++ (Lib.itoa q.tier)))) (runs_scat (a := (((((((([106, 111, 105, 110, 32]) ++ (Lib.itoa q.id)) ++ ([32])) ++ (Lib.itoa q.cabin)) ++ ([32])) ++ ([45])) ++ ([32])) ++ (Lib.itoa q.size)) ++ ([32])) (b := Lib.itoa q.tier) ?_ ?_ (by first | omega | (simp only [List.length_append, List.length_cons, List.length_nil, List.length_take, List.length_drop] at *; omega))) ?_
        · as_aux_lemma => kernel_rfl
        · as_aux_lemma => kernel_rfl
        · as_aux_lemma => kernel_rfl
        refine QRUN 1 22 23 [(2, .v (.string (bs (((((((((([106, 111, 105, 110, 32]) ++ (Lib.itoa q.id)) ++ ([32])) ++ (Lib.itoa q.cabin)) ++ ([32])) ++ ([45])) ++ ([32])) ++ (Lib.itoa q.size)) ++ ([32])) ++ (Lib.itoa q.tier)))))] ?_ rfl ?_
        · as_aux_lemma => kernel_rfl
        refine QEND rfl (NEXT (RET (OUTR (PASS trivial (FIN (.string (bs (((((((((([106, 111, 105, 110, 32]) ++ (Lib.itoa q.id)) ++ ([32])) ++ (Lib.itoa q.cabin)) ++ ([32])) ++ ([45])) ++ ([32])) ++ (Lib.itoa q.size)) ++ ([32])) ++ (Lib.itoa q.tier)))) ?_ () ?_ [] ?_)))))
        · as_aux_lemma => kernel_rfl
        · (first | (simp [RV, reqLine, reqWord, reqWords, *]; done) | (have h7 : q.kind = 7 := (by omega); simp [RV, reqLine, reqWord, reqWords, *]; done) | (have h9 : ¬ q.from' = -1 := (by omega); simp [RV, reqLine, reqWord, reqWords, *]; done) | (have h9 : q.from' = -1 := (by omega); simp [RV, reqLine, reqWord, reqWords, *]))
        · rfl
    · -- q.kind == 1 = false
      have h2 := bh2
      have h2 := ne_of_beq_false h2
      refine SEQ (REGION [0, 1] rfl (RUN0 2 [] [(1, .p 0 0), (8, I q.kind), (39, B (q.kind == 2))] ?_ rfl ?_))
      · as_aux_lemma => kernel_rfl
      refine ENDOPS (NEXT (IF (q.kind == 2) ?_ (fun bh13 => ?_) (fun bh13 => ?_)))
      · as_aux_lemma => kernel_rfl
      · -- q.kind == 2 = true
        have h13 := bh13
        have h13 := eq_of_beq h13
        refine SEQ (REGION [0, 1, 2, 3, 4] rfl (RUN0 2 [2, 3, 4] [(42, I q.id)] ?_ rfl ?_))
        · as_aux_lemma => kernel_rfl
        refine OPC (CALL 35 #[vi q.id] (some 43) ?_ [] [] _ rfl (RV (.string (bs (Lib.itoa q.id)))) (fun w hw => iDigits_c w q.id (by first | assumption | exact wr_range _ | (unfold i64R at *; omega) | (simp only [i64R] at *; omega)) (htab.fr hw.fr)) (by rintro _ ⟨⟩; exact Nat.le_of_ble_eq_true rfl) ?_)
        · as_aux_lemma => kernel_rfl
        rintro ⟨⟩
        have hr14 := itoa_len (n := q.id) (by first | assumption | exact wr_range _ | (unfold i64R at *; omega) | (simp only [i64R] at *; omega))
        refine OPC (RUNV (.binOp .add 9 (.const (.string (bs ([99, 97, 110, 99, 101, 108, 32])))) (.tmp 43) 9) 44 9 ?_ (Nat.le_of_ble_eq_true rfl) (.string (bs (([99, 97, 110, 99, 101, 108, 32]) ++ (Lib.itoa q.id)))) (runs_scat (a := [99, 97, 110, 99, 101, 108, 32]) (b := Lib.itoa q.id) ?_ ?_ (by first | omega | (simp only [List.length_append, List.length_cons, List.length_nil, List.length_take, List.length_drop] at *; omega))) ?_)
        · as_aux_lemma => kernel_rfl
        · as_aux_lemma => kernel_rfl
        · as_aux_lemma => kernel_rfl
        refine RUN0 1 [] [(2, .v (.string (bs (([99, 97, 110, 99, 101, 108, 32]) ++ (Lib.itoa q.id)))))] ?_ rfl ?_
        · as_aux_lemma => kernel_rfl
        refine ENDOPS (NEXT (RET (OUTR (PASS trivial (FIN (.string (bs (([99, 97, 110, 99, 101, 108, 32]) ++ (Lib.itoa q.id)))) ?_ () ?_ [] ?_)))))
        · as_aux_lemma => kernel_rfl
        · (first | (simp [RV, reqLine, reqWord, reqWords, *]; done) | (have h7 : q.kind = 7 := (by omega); simp [RV, reqLine, reqWord, reqWords, *]; done) | (have h9 : ¬ q.from' = -1 := (by omega); simp [RV, reqLine, reqWord, reqWords, *]; done) | (have h9 : q.from' = -1 := (by omega); simp [RV, reqLine, reqWord, reqWords, *]))
        · rfl
      · -- q.kind == 2 = false
        have h13 := bh13
        have h13 := ne_of_beq_false h13
        refine SEQ (REGION [0, 1] rfl (RUN0 2 [] [(1, .p 0 0), (8, I q.kind), (45, B (q.kind == 3))] ?_ rfl ?_))
        · as_aux_lemma => kernel_rfl
        refine ENDOPS (NEXT (IF (q.kind == 3) ?_ (fun bh15 => ?_) (fun bh15 => ?_)))
        · as_aux_lemma => kernel_rfl
        · -- q.kind == 3 = true
          have h15 := bh15
          have h15 := eq_of_beq h15
          refine SEQ (REGIONQ ?_ ?_ ?_)
          · as_aux_lemma => kernel_rfl
          · as_aux_lemma => kernel_rfl
          refine QRUN 2 0 2 [(1, .p 0 0), (48, I q.cabin)] ?_ rfl ?_
          · as_aux_lemma => kernel_rfl
          have hr16 := itoa_len (n := q.cabin) (by first | assumption | exact wr_range _ | (unfold i64R at *; omega) | (simp only [i64R] at *; omega))
          refine QCALL 35 #[vi q.cabin] (some 49) ?_ (.string (bs (Lib.itoa q.cabin))) (fun w hw => iDigits_c w q.cabin (by first | assumption | exact wr_range _ | (unfold i64R at *; omega) | (simp only [i64R] at *; omega)) (htab.fr hw.fr)) (by rintro _ ⟨⟩; exact Nat.le_of_ble_eq_true rfl) ?_
          · as_aux_lemma => kernel_rfl
          refine QRUNV (.binOp .add 9 (.const (.string (bs ([102, 114, 101, 101, 32])))) (.tmp 49) 9) 50 9 ?_ (Nat.le_of_ble_eq_true rfl) (.string (bs (([102, 114, 101, 101, 32]) ++ (Lib.itoa q.cabin)))) (runs_scat (a := [102, 114, 101, 101, 32]) (b := Lib.itoa q.cabin) ?_ ?_ (by first | omega | (simp only [List.length_append, List.length_cons, List.length_nil, List.length_take, List.length_drop] at *; omega))) ?_
          · as_aux_lemma => kernel_rfl
          · as_aux_lemma => kernel_rfl
          · as_aux_lemma => kernel_rfl
          refine QRUNV (.binOp .add 9 (.tmp 50) (.const (.string (bs ([32])))) 9) 51 9 ?_ (Nat.le_of_ble_eq_true rfl) (.string (bs ((([102, 114, 101, 101, 32]) ++ (Lib.itoa q.cabin)) ++ ([32])))) (runs_scat (a := ([102, 114, 101, 101, 32]) ++ (Lib.itoa q.cabin)) (b := [32]) ?_ ?_ (by first | omega | (simp only [List.length_append, List.length_cons, List.length_nil, List.length_take, List.length_drop] at *; omega))) ?_
          · as_aux_lemma => kernel_rfl
          · as_aux_lemma => kernel_rfl
          · as_aux_lemma => kernel_rfl
          refine QRUN 2 5 7 [(51, .v (.string (bs ((([102, 114, 101, 101, 32]) ++ (Lib.itoa q.cabin)) ++ ([32]))))), (53, I q.size)] ?_ rfl ?_
          · as_aux_lemma => kernel_rfl
          have hr17 := itoa_len (n := q.size) (by first | assumption | exact wr_range _ | (unfold i64R at *; omega) | (simp only [i64R] at *; omega))
          refine QCALL 35 #[vi q.size] (some 54) ?_ (.string (bs (Lib.itoa q.size))) (fun w hw => iDigits_c w q.size (by first | assumption | exact wr_range _ | (unfold i64R at *; omega) | (simp only [i64R] at *; omega)) (htab.fr hw.fr)) (by rintro _ ⟨⟩; exact Nat.le_of_ble_eq_true rfl) ?_
          · as_aux_lemma => kernel_rfl
          refine QRUNV (.binOp .add 9 (.tmp 51) (.tmp 54) 9) 55 9 ?_ (Nat.le_of_ble_eq_true rfl) (.string (bs (((([102, 114, 101, 101, 32]) ++ (Lib.itoa q.cabin)) ++ ([32])) ++ (Lib.itoa q.size)))) (runs_scat (a := (([102, 114, 101, 101, 32]) ++ (Lib.itoa q.cabin)) ++ ([32])) (b := Lib.itoa q.size) ?_ ?_ (by first | omega | (simp only [List.length_append, List.length_cons, List.length_nil, List.length_take, List.length_drop] at *; omega))) ?_
          · as_aux_lemma => kernel_rfl
          · as_aux_lemma => kernel_rfl
          · as_aux_lemma => kernel_rfl
          refine QRUN 1 9 10 [(2, .v (.string (bs (((([102, 114, 101, 101, 32]) ++ (Lib.itoa q.cabin)) ++ ([32])) ++ (Lib.itoa q.size)))))] ?_ rfl ?_
          · as_aux_lemma => kernel_rfl
          refine QEND rfl (NEXT (RET (OUTR (PASS trivial (FIN (.string (bs (((([102, 114, 101, 101, 32]) ++ (Lib.itoa q.cabin)) ++ ([32])) ++ (Lib.itoa q.size)))) ?_ () ?_ [] ?_)))))
          · as_aux_lemma => kernel_rfl
          · (first | (simp [RV, reqLine, reqWord, reqWords, *]; done) | (have h7 : q.kind = 7 := (by omega); simp [RV, reqLine, reqWord, reqWords, *]; done) | (have h9 : ¬ q.from' = -1 := (by omega); simp [RV, reqLine, reqWord, reqWords, *]; done) | (have h9 : q.from' = -1 := (by omega); simp [RV, reqLine, reqWord, reqWords, *]))
          · rfl
        · -- q.kind == 3 = false
          have h15 := bh15
          have h15 := ne_of_beq_false h15
          refine SEQ (REGION [0, 1] rfl (RUN0 2 [] [(1, .p 0 0), (8, I q.kind), (56, B (q.kind == 4))] ?_ rfl ?_))
          · as_aux_lemma => kernel_rfl
          refine ENDOPS (NEXT (IF (q.kind == 4) ?_ (fun bh18 => ?_) (fun bh18 => ?_)))
          · as_aux_lemma => kernel_rfl
          · -- q.kind == 4 = true
            have h18 := bh18
            have h18 := eq_of_beq h18
            refine SEQ (REGION [0, 1, 2, 3, 4] rfl (RUN0 2 [2, 3, 4] [(59, I q.id)] ?_ rfl ?_))
            · as_aux_lemma => kernel_rfl
            refine OPC (CALL 35 #[vi q.id] (some 60) ?_ [] [] _ rfl (RV (.string (bs (Lib.itoa q.id)))) (fun w hw => iDigits_c w q.id (by first | assumption | exact wr_range _ | (unfold i64R at *; omega) | (simp only [i64R] at *; omega)) (htab.fr hw.fr)) (by rintro _ ⟨⟩; exact Nat.le_of_ble_eq_true rfl) ?_)
            · as_aux_lemma => kernel_rfl
            rintro ⟨⟩
            have hr19 := itoa_len (n := q.id) (by first | assumption | exact wr_range _ | (unfold i64R at *; omega) | (simp only [i64R] at *; omega))
            refine OPC (RUNV (.binOp .add 9 (.const (.string (bs ([97, 99, 99, 101, 112, 116, 32])))) (.tmp 60) 9) 61 9 ?_ (Nat.le_of_ble_eq_true rfl) (.string (bs (([97, 99, 99, 101, 112, 116, 32]) ++ (Lib.itoa q.id)))) (runs_scat (a := [97, 99, 99, 101, 112, 116, 32]) (b := Lib.itoa q.id) ?_ ?_ (by first | omega | (simp only [List.length_append, List.length_cons, List.length_nil, List.length_take, List.length_drop] at *; omega))) ?_)
            · as_aux_lemma => kernel_rfl
            · as_aux_lemma => kernel_rfl
            · as_aux_lemma => kernel_rfl
            refine RUN0 1 [] [(2, .v (.string (bs (([97, 99, 99, 101, 112, 116, 32]) ++ (Lib.itoa q.id)))))] ?_ rfl ?_
            · as_aux_lemma => kernel_rfl
            refine ENDOPS (NEXT (RET (OUTR (PASS trivial (FIN (.string (bs (([97, 99, 99, 101, 112, 116, 32]) ++ (Lib.itoa q.id)))) ?_ () ?_ [] ?_)))))
            · as_aux_lemma => kernel_rfl
            · (first | (simp [RV, reqLine, reqWord, reqWords, *]; done) | (have h7 : q.kind = 7 := (by omega); simp [RV, reqLine, reqWord, reqWords, *]; done) | (have h9 : ¬ q.from' = -1 := (by omega); simp [RV, reqLine, reqWord, reqWords, *]; done) | (have h9 : q.from' = -1 := (by omega); simp [RV, reqLine, reqWord, reqWords, *]))
            · rfl
          · -- q.kind == 4 = false
            have h18 := bh18
            have h18 := ne_of_beq_false h18
            refine SEQ (REGION [0, 1] rfl (RUN0 2 [] [(1, .p 0 0), (8, I q.kind), (62, B (q.kind == 5))] ?_ rfl ?_))
            · as_aux_lemma => kernel_rfl
            refine ENDOPS (NEXT (IF (q.kind == 5) ?_ (fun bh20 => ?_) (fun bh20 => ?_)))
            · as_aux_lemma => kernel_rfl
            · -- q.kind == 5 = true
              have h20 := bh20
              have h20 := eq_of_beq h20
              refine SEQ (REGION [0, 1, 2, 3, 4] rfl (RUN0 2 [2, 3, 4] [(65, I q.id)] ?_ rfl ?_))
              · as_aux_lemma => kernel_rfl
              refine OPC (CALL 35 #[vi q.id] (some 66) ?_ [] [] _ rfl (RV (.string (bs (Lib.itoa q.id)))) (fun w hw => iDigits_c w q.id (by first | assumption | exact wr_range _ | (unfold i64R at *; omega) | (simp only [i64R] at *; omega)) (htab.fr hw.fr)) (by rintro _ ⟨⟩; exact Nat.le_of_ble_eq_true rfl) ?_)
              · as_aux_lemma => kernel_rfl
              rintro ⟨⟩
              have hr21 := itoa_len (n := q.id) (by first | assumption | exact wr_range _ | (unfold i64R at *; omega) | (simp only [i64R] at *; omega))
              refine OPC (RUNV (.binOp .add 9 (.const (.string (bs ([100, 101, 99, 108, 105, 110, 101, 32])))) (.tmp 66) 9) 67 9 ?_ (Nat.le_of_ble_eq_true rfl) (.string (bs (([100, 101, 99, 108, 105, 110, 101, 32]) ++ (Lib.itoa q.id)))) (runs_scat (a := [100, 101, 99, 108, 105, 110, 101, 32]) (b := Lib.itoa q.id) ?_ ?_ (by first | omega | (simp only [List.length_append, List.length_cons, List.length_nil, List.length_take, List.length_drop] at *; omega))) ?_)
              · as_aux_lemma => kernel_rfl
              · as_aux_lemma => kernel_rfl
              · as_aux_lemma => kernel_rfl
              refine RUN0 1 [] [(2, .v (.string (bs (([100, 101, 99, 108, 105, 110, 101, 32]) ++ (Lib.itoa q.id)))))] ?_ rfl ?_
              · as_aux_lemma => kernel_rfl
              refine ENDOPS (NEXT (RET (OUTR (PASS trivial (FIN (.string (bs (([100, 101, 99, 108, 105, 110, 101, 32]) ++ (Lib.itoa q.id)))) ?_ () ?_ [] ?_)))))
              · as_aux_lemma => kernel_rfl
              · (first | (simp [RV, reqLine, reqWord, reqWords, *]; done) | (have h7 : q.kind = 7 := (by omega); simp [RV, reqLine, reqWord, reqWords, *]; done) | (have h9 : ¬ q.from' = -1 := (by omega); simp [RV, reqLine, reqWord, reqWords, *]; done) | (have h9 : q.from' = -1 := (by omega); simp [RV, reqLine, reqWord, reqWords, *]))
              · rfl
            · -- q.kind == 5 = false
              have h20 := bh20
              have h20 := ne_of_beq_false h20
              refine SEQ (REGION [0, 1] rfl (RUN0 2 [] [(1, .p 0 0), (68, B (q.kind == 6))] ?_ rfl ?_))
              · as_aux_lemma => kernel_rfl
              refine ENDOPS (NEXT (IF (q.kind == 6) ?_ (fun bh22 => ?_) (fun bh22 => ?_)))
              · as_aux_lemma => kernel_rfl
              · -- q.kind == 6 = true
                have h22 := bh22
                have h22 := eq_of_beq h22
                refine SEQ (REGION [0] rfl (RUN0 1 [] [(2, .v (.string (bs ([116, 105, 99, 107]))))] ?_ rfl ?_))
                · as_aux_lemma => kernel_rfl
                refine ENDOPS (NEXT (RET (OUTR (PASS trivial (FIN (.string (bs ([116, 105, 99, 107]))) ?_ () ?_ [] ?_)))))
                · as_aux_lemma => kernel_rfl
                · (first | (simp [RV, reqLine, reqWord, reqWords, *]; done) | (have h7 : q.kind = 7 := (by omega); simp [RV, reqLine, reqWord, reqWords, *]; done) | (have h9 : ¬ q.from' = -1 := (by omega); simp [RV, reqLine, reqWord, reqWords, *]; done) | (have h9 : q.from' = -1 := (by omega); simp [RV, reqLine, reqWord, reqWords, *]))
                · rfl
              · -- q.kind == 6 = false
                have h22 := bh22
                have h22 := ne_of_beq_false h22
                refine SKIP (OUTN (NEXT (SEQ (REGION [0, 1, 2, 3, 4] rfl (RUN0 2 [2, 3, 4] [(71, I q.id)] ?_ rfl ?_)))))
                · as_aux_lemma => kernel_rfl
                refine OPC (CALL 35 #[vi q.id] (some 72) ?_ [] [] _ rfl (RV (.string (bs (Lib.itoa q.id)))) (fun w hw => iDigits_c w q.id (by first | assumption | exact wr_range _ | (unfold i64R at *; omega) | (simp only [i64R] at *; omega)) (htab.fr hw.fr)) (by rintro _ ⟨⟩; exact Nat.le_of_ble_eq_true rfl) ?_)
                · as_aux_lemma => kernel_rfl
                rintro ⟨⟩
                have hr23 := itoa_len (n := q.id) (by first | assumption | exact wr_range _ | (unfold i64R at *; omega) | (simp only [i64R] at *; omega))
                refine OPC (RUNV (.binOp .add 9 (.const (.string (bs ([112, 105, 99, 107, 32])))) (.tmp 72) 9) 73 9 ?_ (Nat.le_of_ble_eq_true rfl) (.string (bs (([112, 105, 99, 107, 32]) ++ (Lib.itoa q.id)))) (runs_scat (a := [112, 105, 99, 107, 32]) (b := Lib.itoa q.id) ?_ ?_ (by first | omega | (simp only [List.length_append, List.length_cons, List.length_nil, List.length_take, List.length_drop] at *; omega))) ?_)
                · as_aux_lemma => kernel_rfl
                · as_aux_lemma => kernel_rfl
                · as_aux_lemma => kernel_rfl
                refine RUN0 1 [] [(2, .v (.string (bs (([112, 105, 99, 107, 32]) ++ (Lib.itoa q.id)))))] ?_ rfl ?_
                · as_aux_lemma => kernel_rfl
                refine ENDOPS (NEXT (RET (FIN (.string (bs (([112, 105, 99, 107, 32]) ++ (Lib.itoa q.id)))) ?_ () ?_ [] ?_)))
                · as_aux_lemma => kernel_rfl
                · (first | (simp [RV, reqLine, reqWord, reqWords, *]; done) | (have h7 : q.kind = 7 := (by omega); simp [RV, reqLine, reqWord, reqWords, *]; done) | (have h9 : ¬ q.from' = -1 := (by omega); simp [RV, reqLine, reqWord, reqWords, *]; done) | (have h9 : q.from' = -1 := (by omega); simp [RV, reqLine, reqWord, reqWords, *]))
                · rfl

theorem sReqLine_c (W : World) (q : Req) : Spec Tryd.prog W [] 13 #[.agg #[vi q.kind, vi q.id, vi q.cabin, vi q.from', vi q.size, vi q.tier]] (RV (.string (bs (reqLine q)))) := by
  refine ENTER0 (N := 67) (vs := [.agg #[vi q.kind, vi q.id, vi q.cabin, vi q.from', vi q.size, vi q.tier]]) Tryd.func13 rfl rfl (Nat.le_of_ble_eq_true rfl) ?_
  refine SEQ (REGION [0, 1] rfl (RUN 2 [] [(1, .p 0 0)] [(34, [vi q.kind, vi q.id, vi q.cabin, vi q.from', vi q.size, vi q.tier])] ?_ rfl ?_))
  · as_aux_lemma => kernel_rfl
  refine ENDOPS (NEXT (SEQ (SEQ (REGION [0, 1, 2] rfl (RUN0 1 [1, 2] [(1, .p 0 0), (5, .v (.agg #[vi q.kind, vi q.id, vi q.cabin, vi q.from', vi q.size, vi q.tier]))] ?_ rfl ?_)))))
  · as_aux_lemma => kernel_rfl
  refine OPC (CALL 37 #[.agg #[vi q.kind, vi q.id, vi q.cabin, vi q.from', vi q.size, vi q.tier]] (some 6) ?_ [] [] _ rfl (RV (.bool (reqOk q))) (fun w hw => sReqOk_c w q) (by rintro _ ⟨⟩; exact Nat.le_of_ble_eq_true rfl) ?_)
  · as_aux_lemma => kernel_rfl
  rintro ⟨⟩
  refine RUN0 1 [] [(1, .p 0 0), (7, B (!(reqOk q)))] ?_ rfl ?_
  · as_aux_lemma => kernel_rfl
  refine ENDOPS (NEXT (IF (!(reqOk q)) ?_ (fun bh1 => ?_) (fun bh1 => ?_)))
  · as_aux_lemma => kernel_rfl
  · -- !(reqOk q) = true
    have h1 := bh1
    have h1 := notT h1
    refine SEQ (REGION [0] rfl (RUN0 1 [] [(2, .v (.string (bs ([]))))] ?_ rfl ?_))
    · as_aux_lemma => kernel_rfl
    refine ENDOPS (NEXT (RET (PASS trivial (FIN (.string (bs ([]))) ?_ () ?_ [] ?_))))
    · as_aux_lemma => kernel_rfl
    · (first | (simp [RV, reqLine, reqWord, reqWords, *]; done) | (have h7 : q.kind = 7 := (by omega); simp [RV, reqLine, reqWord, reqWords, *]; done) | (have h9 : ¬ q.from' = -1 := (by omega); simp [RV, reqLine, reqWord, reqWords, *]; done) | (have h9 : q.from' = -1 := (by omega); simp [RV, reqLine, reqWord, reqWords, *]))
    · rfl
  · -- !(reqOk q) = false
    have h1 := bh1
    have h1 := notF h1
    have hq := reqOk_rng h1
    refine SKIP (NEXT (SEQ (REGION [0, 1, 2, 3] rfl (RUN0 2 [2, 3] [(1, .p 0 0), (9, I q.kind)] ?_ rfl ?_))))
    · as_aux_lemma => kernel_rfl
    refine OPC (CALL 38 #[vi q.kind] (some 10) ?_ [] [] _ rfl (RV (.string (bs (reqWord q.kind)))) (fun w hw => l29Word_c w q.kind (by omega)) (by rintro _ ⟨⟩; exact Nat.le_of_ble_eq_true rfl) ?_)
    · as_aux_lemma => kernel_rfl
    rintro ⟨⟩
    have hr2 := reqWord_len q.kind
    refine RUN0 1 [] [(1, .p 0 0), (3, .v (.string (bs (reqWord q.kind))))] ?_ rfl ?_
    · as_aux_lemma => kernel_rfl
    refine ENDOPS (NEXT (SEQ (SEQ (REGION [0, 1] rfl (RUN0 2 [] [(1, .p 0 0), (3, .v (.string (bs (reqWord q.kind)))), (12, I q.kind)] ?_ rfl ?_)))))
    · as_aux_lemma => kernel_rfl
    refine ENDOPS (NEXT (BLOCK (SEQ (REGION [0, 1] rfl (RUN0 2 [] [(1, .p 0 0), (3, .v (.string (bs (reqWord q.kind)))), (12, I q.kind), (13, B (q.kind == 1))] ?_ rfl ?_)))))
    · as_aux_lemma => kernel_rfl
    refine ENDOPS (NEXT (IF (q.kind == 1) ?_ (fun bh3 => ?_) (fun bh3 => ?_)))
    · as_aux_lemma => kernel_rfl
    · -- q.kind == 1 = true
      have h3 := bh3
      have h3 := eq_of_beq h3
      refine SEQ (REGION [0] rfl (RUN0 1 [] [(1, .p 0 0), (3, .v (.string (bs (reqWord q.kind)))), (4, .v (.string (bs ([45]))))] ?_ rfl ?_))
      · as_aux_lemma => kernel_rfl
      refine ENDOPS (NEXT (SEQ (SEQ (REGION [0, 1, 2] rfl (RUN0 3 [] [(1, .p 0 0), (3, .v (.string (bs (reqWord q.kind)))), (4, .v (.string (bs ([45])))), (17, B (decide (q.from' ≥ 0)))] ?_ rfl ?_)))))
      · as_aux_lemma => kernel_rfl
      refine ENDOPS (NEXT (IF (decide (q.from' ≥ 0)) ?_ (fun bh4 => ?_) (fun bh4 => ?_)))
      · as_aux_lemma => kernel_rfl
      · -- decide (q.from' ≥ 0) = true
        have h4 := bh4
        have h4 := of_decide_eq_true h4
        refine REGION [0, 1, 2, 3] rfl (RUN0 2 [2, 3] [(1, .p 0 0), (3, .v (.string (bs (reqWord q.kind)))), (19, I q.from')] ?_ rfl ?_)
        · as_aux_lemma => kernel_rfl
        refine OPC (CALL 32 #[vi q.from'] (some 20) ?_ [] [] _ rfl (RV (.string (bs (Lib.itoa q.from')))) (fun w hw => sDigits_c w q.from' (by first | assumption | exact wr_range _ | (unfold i64R at *; omega) | (simp only [i64R] at *; omega))) (by rintro _ ⟨⟩; exact Nat.le_of_ble_eq_true rfl) ?_)
        · as_aux_lemma => kernel_rfl
        rintro ⟨⟩
        have hr5 := itoa_len (n := q.from') (by first | assumption | exact wr_range _ | (unfold i64R at *; omega) | (simp only [i64R] at *; omega))
        refine RUN0 1 [] [(1, .p 0 0), (3, .v (.string (bs (reqWord q.kind)))), (4, .v (.string (bs (Lib.itoa q.from'))))] ?_ rfl ?_
        · as_aux_lemma => kernel_rfl
        refine ENDOPS (NEXT (SEQ (REGIONQ ?_ ?_ ?_)))
        · as_aux_lemma => kernel_rfl
        · as_aux_lemma => kernel_rfl
        refine QRUN 1 0 1 [(1, .p 0 0), (4, .v (.string (bs (Lib.itoa q.from')))), (21, .v (.string (bs (reqWord q.kind))))] ?_ rfl ?_
        · as_aux_lemma => kernel_rfl
        refine QRUNV (.binOp .add 9 (.tmp 21) (.const (.string (bs ([32])))) 9) 22 9 ?_ (Nat.le_of_ble_eq_true rfl) (.string (bs ((reqWord q.kind) ++ ([32])))) (runs_scat (a := reqWord q.kind) (b := [32]) ?_ ?_ (by first | omega | (simp only [List.length_append, List.length_cons, List.length_nil, List.length_take, List.length_drop] at *; omega))) ?_
        · as_aux_lemma => kernel_rfl
        · as_aux_lemma => kernel_rfl
        · as_aux_lemma => kernel_rfl
        refine QRUN 2 2 4 [(1, .p 0 0), (4, .v (.string (bs (Lib.itoa q.from')))), (22, .v (.string (bs ((reqWord q.kind) ++ ([32]))))), (24, I q.id)] ?_ rfl ?_
        · as_aux_lemma => kernel_rfl
        have hr6 := itoa_len (n := q.id) (by first | assumption | exact wr_range _ | (unfold i64R at *; omega) | (simp only [i64R] at *; omega))
        refine QCALL 32 #[vi q.id] (some 25) ?_ (.string (bs (Lib.itoa q.id))) (fun w hw => sDigits_c w q.id (by first | assumption | exact wr_range _ | (unfold i64R at *; omega) | (simp only [i64R] at *; omega))) (by rintro _ ⟨⟩; exact Nat.le_of_ble_eq_true rfl) ?_
        · as_aux_lemma => kernel_rfl
        refine QRUNV (.binOp .add 9 (.tmp 22) (.tmp 25) 9) 26 9 ?_ (Nat.le_of_ble_eq_true rfl) (.string (bs (((reqWord q.kind) ++ ([32])) ++ (Lib.itoa q.id)))) (runs_scat (a := (reqWord q.kind) ++ ([32])) (b := Lib.itoa q.id) ?_ ?_ (by first | omega | (simp only [List.length_append, List.length_cons, List.length_nil, List.length_take, List.length_drop] at *; omega))) ?_
        · as_aux_lemma => kernel_rfl
        · as_aux_lemma => kernel_rfl
        · as_aux_lemma => kernel_rfl
        refine QRUNV (.binOp .add 9 (.tmp 26) (.const (.string (bs ([32])))) 9) 27 9 ?_ (Nat.le_of_ble_eq_true rfl) (.string (bs ((((reqWord q.kind) ++ ([32])) ++ (Lib.itoa q.id)) ++ ([32])))) (runs_scat (a := ((reqWord q.kind) ++ ([32])) ++ (Lib.itoa q.id)) (b := [32]) ?_ ?_ (by first | omega | (simp only [List.length_append, List.length_cons, List.length_nil, List.length_take, List.length_drop] at *; omega))) ?_
        · as_aux_lemma => kernel_rfl
        · as_aux_lemma => kernel_rfl
        · as_aux_lemma => kernel_rfl
        refine QRUN 2 7 9 [(1, .p 0 0), (4, .v (.string (bs (Lib.itoa q.from')))), (27, .v (.string (bs ((((reqWord q.kind) ++ ([32])) ++ (Lib.itoa q.id)) ++ ([32]))))), (29, I q.cabin)] ?_ rfl ?_
        · as_aux_lemma => kernel_rfl
        have hr7 := itoa_len (n := q.cabin) (by first | assumption | exact wr_range _ | (unfold i64R at *; omega) | (simp only [i64R] at *; omega))
        refine QCALL 32 #[vi q.cabin] (some 30) ?_ (.string (bs (Lib.itoa q.cabin))) (fun w hw => sDigits_c w q.cabin (by first | assumption | exact wr_range _ | (unfold i64R at *; omega) | (simp only [i64R] at *; omega))) (by rintro _ ⟨⟩; exact Nat.le_of_ble_eq_true rfl) ?_
        · as_aux_lemma => kernel_rfl
        refine QRUNV (.binOp .add 9 (.tmp 27) (.tmp 30) 9) 31 9 ?_ (Nat.le_of_ble_eq_true rfl) (.string (bs (((((reqWord q.kind) ++ ([32])) ++ (Lib.itoa q.id)) ++ ([32])) ++ (Lib.itoa q.cabin)))) (runs_scat (a := (((reqWord q.kind) ++ ([32])) ++ (Lib.itoa q.id)) ++ ([32])) (b := Lib.itoa q.cabin) ?_ ?_ (by first | omega | (simp only [List.length_append, List.length_cons, List.length_nil, List.length_take, List.length_drop] at *; omega))) ?_
        · as_aux_lemma => kernel_rfl
        · as_aux_lemma => kernel_rfl
        · as_aux_lemma => kernel_rfl
        refine QRUNV (.binOp .add 9 (.tmp 31) (.const (.string (bs ([32])))) 9) 32 9 ?_ (Nat.le_of_ble_eq_true rfl) (.string (bs ((((((reqWord q.kind) ++ ([32])) ++ (Lib.itoa q.id)) ++ ([32])) ++ (Lib.itoa q.cabin)) ++ ([32])))) (runs_scat (a := ((((reqWord q.kind) ++ ([32])) ++ (Lib.itoa q.id)) ++ ([32])) ++ (Lib.itoa q.cabin)) (b := [32]) ?_ ?_ (by first | omega | (simp only [List.length_append, List.length_cons, List.length_nil, List.length_take, List.length_drop] at *; omega))) ?_
        · as_aux_lemma => kernel_rfl
        · as_aux_lemma => kernel_rfl
        · as_aux_lemma => kernel_rfl
        refine QRUN 1 12 13 [(1, .p 0 0), (32, .v (.string (bs ((((((reqWord q.kind) ++ ([32])) ++ (Lib.itoa q.id)) ++ ([32])) ++ (Lib.itoa q.cabin)) ++ ([32]))))), (33, .v (.string (bs (Lib.itoa q.from'))))] ?_ rfl ?_
        · as_aux_lemma => kernel_rfl
        refine QRUNV (.binOp .add 9 (.tmp 32) (.tmp 33) 9) 34 9 ?_ (Nat.le_of_ble_eq_true rfl) (.string (bs (((((((reqWord q.kind) ++ ([32])) ++ (Lib.itoa q.id)) ++ ([32])) ++ (Lib.itoa q.cabin)) ++ ([32])) ++ (Lib.itoa q.from')))) (runs_scat (a := (((((reqWord q.kind) ++ ([32])) ++ (Lib.itoa q.id)) ++ ([32])) ++ (Lib.itoa q.cabin)) ++ ([32])) (b := Lib.itoa q.from') ?_ ?_ (by first | omega | (simp only [List.length_append, List.length_cons, List.length_nil, List.length_take, List.length_drop] at *; omega))) ?_
        · as_aux_lemma => kernel_rfl
        · as_aux_lemma => kernel_rfl
        · as_aux_lemma => kernel_rfl
        refine QRUNV (.binOp .add 9 (.tmp 34) (.const (.string (bs ([32])))) 9) 35 9 ?_ (Nat.le_of_ble_eq_true rfl) (.string (bs ((((((((reqWord q.kind) ++ ([32])) ++ (Lib.itoa q.id)) ++ ([32])) ++ (Lib.itoa q.cabin)) ++ ([32])) ++ (Lib.itoa q.from')) ++ ([32])))) (runs_scat (a := ((((((reqWord q.kind) ++ ([32])) ++ (Lib.itoa q.id)) ++ ([32])) ++ (Lib.itoa q.cabin)) ++ ([32])) ++ (Lib.itoa q.from')) (b := [32]) ?_ ?_ (by first | omega | (simp only [List.length_append, List.length_cons, List.length_nil, List.length_take, List.length_drop] at *; omega))) ?_
        · as_aux_lemma => kernel_rfl
        · as_aux_lemma => kernel_rfl
        · as_aux_lemma => kernel_rfl
        refine QRUN 2 15 17 [(1, .p 0 0), (35, .v (.string (bs ((((((((reqWord q.kind) ++ ([32])) ++ (Lib.itoa q.id)) ++ ([32])) ++ (Lib.itoa q.cabin)) ++ ([32])) ++ (Lib.itoa q.from')) ++ ([32]))))), (37, I q.size)] ?_ rfl ?_
        · as_aux_lemma => kernel_rfl
        have hr8 := itoa_len (n := q.size) (by first | assumption | exact wr_range _ | (unfold i64R at *; omega) | (simp only [i64R] at *; omega))
        refine QCALL 32 #[vi q.size] (some 38) ?_ (.string (bs (Lib.itoa q.size))) (fun w hw => sDigits_c w q.size (by first | assumption | exact wr_range _ | (unfold i64R at *; omega) | (simp only [i64R] at *; omega))) (by rintro _ ⟨⟩; exact Nat.le_of_ble_eq_true rfl) ?_
        · as_aux_lemma => kernel_rfl
        refine QRUNV (.binOp .add 9 (.tmp 35) (.tmp 38) 9) 39 9 ?_ (Nat.le_of_ble_eq_true rfl) (.string (bs (((((((((reqWord q.kind) ++ ([32])) ++ (Lib.itoa q.id)) ++ ([32])) ++ (Lib.itoa q.cabin)) ++ ([32])) ++ (Lib.itoa q.from')) ++ ([32])) ++ (Lib.itoa q.size)))) (runs_scat (a := (((((((reqWord q.kind) ++ ([32])) ++ (Lib.itoa q.id)) ++ ([32])) ++ (Lib.itoa q.cabin)) ++ ([32])) ++ (Lib.itoa q.from')) ++ ([32])) (b := Lib.itoa q.size) ?_ ?_ (by first | omega | (simp only [List.length_append, List.length_cons, List.length_nil, List.length_take, List.length_drop] at *; omega))) ?_
        · as_aux_lemma => kernel_rfl
        · as_aux_lemma => kernel_rfl
        · as_aux_lemma => kernel_rfl
        refine QRUNV (.binOp .add 9 (.tmp 39) (.const (.string (bs ([32])))) 9) 40 9 ?_ (Nat.le_of_ble_eq_true rfl) (.string (bs ((((((((((reqWord q.kind) ++ ([32])) ++ (Lib.itoa q.id)) ++ ([32])) ++ (Lib.itoa q.cabin)) ++ ([32])) ++ (Lib.itoa q.from')) ++ ([32])) ++ (Lib.itoa q.size)) ++ ([32])))) (runs_scat (a := ((((((((reqWord q.kind) ++ ([32])) ++ (Lib.itoa q.id)) ++ ([32])) ++ (Lib.itoa q.cabin)) ++ ([32])) ++ (Lib.itoa q.from')) ++ ([32])) ++ (Lib.itoa q.size)) (b := [32]) ?_ ?_ (by first | omega | (simp only [List.length_append, List.length_cons, List.length_nil, List.length_take, List.length_drop] at *; omega))) ?_
        · as_aux_lemma => kernel_rfl
        · as_aux_lemma => kernel_rfl
        · as_aux_lemma => kernel_rfl
        refine QRUN 2 20 22 [(40, .v (.string (bs ((((((((((reqWord q.kind) ++ ([32])) ++ (Lib.itoa q.id)) ++ ([32])) ++ (Lib.itoa q.cabin)) ++ ([32])) ++ (Lib.itoa q.from')) ++ ([32])) ++ (Lib.itoa q.size)) ++ ([32]))))), (42, I q.tier)] ?_ rfl ?_
        · as_aux_lemma => kernel_rfl
        have hr9 := itoa_len (n := q.tier) (by first | assumption | exact wr_range _ | (unfold i64R at *; omega) | (simp only [i64R] at *; omega))
        refine QCALL 32 #[vi q.tier] (some 43) ?_ (.string (bs (Lib.itoa q.tier))) (fun w hw => sDigits_c w q.tier (by first | assumption | exact wr_range _ | (unfold i64R at *; omega) | (simp only [i64R] at *; omega))) (by rintro _ ⟨⟩; exact Nat.le_of_ble_eq_true rfl) ?_
        · as_aux_lemma => kernel_rfl
        refine QRUNV (.binOp .add 9 (.tmp 40) (.tmp 43) 9) 44 9 ?_ (Nat.le_of_ble_eq_true rfl) (.string (bs (((((((((((reqWord q.kind) ++ ([32])) ++ (Lib.itoa q.id)) ++ ([32])) ++ (Lib.itoa q.cabin)) ++ ([32])) ++ (Lib.itoa q.from')) ++ ([32])) ++ (Lib.itoa q.size)) ++ ([32])) ++ (Lib.itoa q.tier)))) (runs_scat (a := (((((((((reqWord q.kind) ++ ([32])) ++ (Lib.itoa q.id)) ++ ([32])) ++ (Lib.itoa q.cabin)) ++ ([32])) ++ (Lib.itoa q.from')) ++ ([32])) ++ (Lib.itoa q.size)) ++ ([32])) (b := Lib.itoa q.tier) ?_ ?_ (by first | omega | (simp only [List.length_append, List.length_cons, List.length_nil, List.length_take, List.length_drop] at *; omega))) ?_
        · as_aux_lemma => kernel_rfl
        · as_aux_lemma => kernel_rfl
        · as_aux_lemma => kernel_rfl
        refine QRUN 1 24 25 [(2, .v (.string (bs (((((((((((reqWord q.kind) ++ ([32])) ++ (Lib.itoa q.id)) ++ ([32])) ++ (Lib.itoa q.cabin)) ++ ([32])) ++ (Lib.itoa q.from')) ++ ([32])) ++ (Lib.itoa q.size)) ++ ([32])) ++ (Lib.itoa q.tier)))))] ?_ rfl ?_
        · as_aux_lemma => kernel_rfl
        refine QEND rfl (NEXT (RET (OUTR (PASS trivial (FIN (.string (bs (((((((((((reqWord q.kind) ++ ([32])) ++ (Lib.itoa q.id)) ++ ([32])) ++ (Lib.itoa q.cabin)) ++ ([32])) ++ (Lib.itoa q.from')) ++ ([32])) ++ (Lib.itoa q.size)) ++ ([32])) ++ (Lib.itoa q.tier)))) ?_ () ?_ [] ?_)))))
        · as_aux_lemma => kernel_rfl
        · (first | (simp [RV, reqLine, reqWord, reqWords, *]; done) | (have h7 : q.kind = 7 := (by omega); simp [RV, reqLine, reqWord, reqWords, *]; done) | (have h9 : ¬ q.from' = -1 := (by omega); simp [RV, reqLine, reqWord, reqWords, *]; done) | (have h9 : q.from' = -1 := (by omega); simp [RV, reqLine, reqWord, reqWords, *]))
        · rfl
      · -- decide (q.from' ≥ 0) = false
        have h4 := bh4
        have h4 := of_decide_eq_false h4
        refine SKIP (NEXT (SEQ (REGIONQ ?_ ?_ ?_)))
        · as_aux_lemma => kernel_rfl
        · as_aux_lemma => kernel_rfl
        refine QRUN 1 0 1 [(1, .p 0 0), (4, .v (.string (bs ([45])))), (21, .v (.string (bs (reqWord q.kind))))] ?_ rfl ?_
        · as_aux_lemma => kernel_rfl
        refine QRUNV (.binOp .add 9 (.tmp 21) (.const (.string (bs ([32])))) 9) 22 9 ?_ (Nat.le_of_ble_eq_true rfl) (.string (bs ((reqWord q.kind) ++ ([32])))) (runs_scat (a := reqWord q.kind) (b := [32]) ?_ ?_ (by first | omega | (simp only [List.length_append, List.length_cons, List.length_nil, List.length_take, List.length_drop] at *; omega))) ?_
        · as_aux_lemma => kernel_rfl
        · as_aux_lemma => kernel_rfl
        · as_aux_lemma => kernel_rfl
        refine QRUN 2 2 4 [(1, .p 0 0), (4, .v (.string (bs ([45])))), (22, .v (.string (bs ((reqWord q.kind) ++ ([32]))))), (24, I q.id)] ?_ rfl ?_
        · as_aux_lemma => kernel_rfl
        have hr10 := itoa_len (n := q.id) (by first | assumption | exact wr_range _ | (unfold i64R at *; omega) | (simp only [i64R] at *; omega))
        refine QCALL 32 #[vi q.id] (some 25) ?_ (.string (bs (Lib.itoa q.id))) (fun w hw => sDigits_c w q.id (by first | assumption | exact wr_range _ | (unfold i64R at *; omega) | (simp only [i64R] at *; omega))) (by rintro _ ⟨⟩; exact Nat.le_of_ble_eq_true rfl) ?_
        · as_aux_lemma => kernel_rfl
        refine QRUNV (.binOp .add 9 (.tmp 22) (.tmp 25) 9) 26 9 ?_ (Nat.le_of_ble_eq_true rfl) (.string (bs (((reqWord q.kind) ++ ([32])) ++ (Lib.itoa q.id)))) (runs_scat (a := (reqWord q.kind) ++ ([32])) (b := Lib.itoa q.id) ?_ ?_ (by first | omega | (simp only [List.length_append, List.length_cons, List.length_nil, List.length_take, List.length_drop] at *; omega))) ?_
        · as_aux_lemma => kernel_rfl
        · as_aux_lemma => kernel_rfl
        · as_aux_lemma => kernel_rfl
        refine QRUNV (.binOp .add 9 (.tmp 26) (.const (.string (bs ([32])))) 9) 27 9 ?_ (Nat.le_of_ble_eq_true rfl) (.string (bs ((((reqWord q.kind) ++ ([32])) ++ (Lib.itoa q.id)) ++ ([32])))) (runs_scat (a := ((reqWord q.kind) ++ ([32])) ++ (Lib.itoa q.id)) (b := [32]) ?_ ?_ (by first | omega | (simp only [List.length_append, List.length_cons, List.length_nil, List.length_take, List.length_drop] at *; omega))) ?_
        · as_aux_lemma => kernel_rfl
        · as_aux_lemma => kernel_rfl
        · as_aux_lemma => kernel_rfl
        refine QRUN 2 7 9 [(1, .p 0 0), (4, .v (.string (bs ([45])))), (27, .v (.string (bs ((((reqWord q.kind) ++ ([32])) ++ (Lib.itoa q.id)) ++ ([32]))))), (29, I q.cabin)] ?_ rfl ?_
        · as_aux_lemma => kernel_rfl
        have hr11 := itoa_len (n := q.cabin) (by first | assumption | exact wr_range _ | (unfold i64R at *; omega) | (simp only [i64R] at *; omega))
        refine QCALL 32 #[vi q.cabin] (some 30) ?_ (.string (bs (Lib.itoa q.cabin))) (fun w hw => sDigits_c w q.cabin (by first | assumption | exact wr_range _ | (unfold i64R at *; omega) | (simp only [i64R] at *; omega))) (by rintro _ ⟨⟩; exact Nat.le_of_ble_eq_true rfl) ?_
        · as_aux_lemma => kernel_rfl
        refine QRUNV (.binOp .add 9 (.tmp 27) (.tmp 30) 9) 31 9 ?_ (Nat.le_of_ble_eq_true rfl) (.string (bs (((((reqWord q.kind) ++ ([32])) ++ (Lib.itoa q.id)) ++ ([32])) ++ (Lib.itoa q.cabin)))) (runs_scat (a := (((reqWord q.kind) ++ ([32])) ++ (Lib.itoa q.id)) ++ ([32])) (b := Lib.itoa q.cabin) ?_ ?_ (by first | omega | (simp only [List.length_append, List.length_cons, List.length_nil, List.length_take, List.length_drop] at *; omega))) ?_
        · as_aux_lemma => kernel_rfl
        · as_aux_lemma => kernel_rfl
        · as_aux_lemma => kernel_rfl
        refine QRUNV (.binOp .add 9 (.tmp 31) (.const (.string (bs ([32])))) 9) 32 9 ?_ (Nat.le_of_ble_eq_true rfl) (.string (bs ((((((reqWord q.kind) ++ ([32])) ++ (Lib.itoa q.id)) ++ ([32])) ++ (Lib.itoa q.cabin)) ++ ([32])))) (runs_scat (a := ((((reqWord q.kind) ++ ([32])) ++ (Lib.itoa q.id)) ++ ([32])) ++ (Lib.itoa q.cabin)) (b := [32]) ?_ ?_ (by first | omega | (simp only [List.length_append, List.length_cons, List.length_nil, List.length_take, List.length_drop] at *; omega))) ?_
        · as_aux_lemma => kernel_rfl
        · as_aux_lemma => kernel_rfl
        · as_aux_lemma => kernel_rfl
        refine QRUN 1 12 13 [(1, .p 0 0), (32, .v (.string (bs ((((((reqWord q.kind) ++ ([32])) ++ (Lib.itoa q.id)) ++ ([32])) ++ (Lib.itoa q.cabin)) ++ ([32]))))), (33, .v (.string (bs ([45]))))] ?_ rfl ?_
        · as_aux_lemma => kernel_rfl
        refine QRUNV (.binOp .add 9 (.tmp 32) (.tmp 33) 9) 34 9 ?_ (Nat.le_of_ble_eq_true rfl) (.string (bs (((((((reqWord q.kind) ++ ([32])) ++ (Lib.itoa q.id)) ++ ([32])) ++ (Lib.itoa q.cabin)) ++ ([32])) ++ ([45])))) (runs_scat (a := (((((reqWord q.kind) ++ ([32])) ++ (Lib.itoa q.id)) ++ ([32])) ++ (Lib.itoa q.cabin)) ++ ([32])) (b := [45]) ?_ ?_ (by first | omega | (simp only [List.length_append, List.length_cons, List.length_nil, List.length_take, List.length_drop] at *; omega))) ?_
        · as_aux_lemma => kernel_rfl
        · as_aux_lemma => kernel_rfl
        · as_aux_lemma => kernel_rfl
        refine QRUNV (.binOp .add 9 (.tmp 34) (.const (.string (bs ([32])))) 9) 35 9 ?_ (Nat.le_of_ble_eq_true rfl) (.string (bs ((((((((reqWord q.kind) ++ ([32])) ++ (Lib.itoa q.id)) ++ ([32])) ++ (Lib.itoa q.cabin)) ++ ([32])) ++ ([45])) ++ ([32])))) (runs_scat (a := ((((((reqWord q.kind) ++ ([32])) ++ (Lib.itoa q.id)) ++ ([32])) ++ (Lib.itoa q.cabin)) ++ ([32])) ++ ([45])) (b := [32]) ?_ ?_ (by first | omega | (simp only [List.length_append, List.length_cons, List.length_nil, List.length_take, List.length_drop] at *; omega))) ?_
        · as_aux_lemma => kernel_rfl
        · as_aux_lemma => kernel_rfl
        · as_aux_lemma => kernel_rfl
        refine QRUN 2 15 17 [(1, .p 0 0), (35, .v (.string (bs ((((((((reqWord q.kind) ++ ([32])) ++ (Lib.itoa q.id)) ++ ([32])) ++ (Lib.itoa q.cabin)) ++ ([32])) ++ ([45])) ++ ([32]))))), (37, I q.size)] ?_ rfl ?_
        · as_aux_lemma => kernel_rfl
        have hr12 := itoa_len (n := q.size) (by first | assumption | exact wr_range _ | (unfold i64R at *; omega) | (simp only [i64R] at *; omega))
        refine QCALL 32 #[vi q.size] (some 38) ?_ (.string (bs (Lib.itoa q.size))) (fun w hw => sDigits_c w q.size (by first | assumption | exact wr_range _ | (unfold i64R at *; omega) | (simp only [i64R] at *; omega))) (by rintro _ ⟨⟩; exact Nat.le_of_ble_eq_true rfl) ?_
        · as_aux_lemma => kernel_rfl
        refine QRUNV (.binOp .add 9 (.tmp 35) (.tmp 38) 9) 39 9 ?_ (Nat.le_of_ble_eq_true rfl) (.string (bs (((((((((reqWord q.kind) ++ ([32])) ++ (Lib.itoa q.id)) ++ ([32])) ++ (Lib.itoa q.cabin)) ++ ([32])) ++ ([45])) ++ ([32])) ++ (Lib.itoa q.size)))) (runs_scat (a := (((((((reqWord q.kind) ++ ([32])) ++ (Lib.itoa q.id)) ++ ([32])) ++ (Lib.itoa q.cabin)) ++ ([32])) ++ ([45])) ++ ([32])) (b := Lib.itoa q.size) ?_ ?_ (by first | omega | (simp only [List.length_append, List.length_cons, List.length_nil, List.length_take, List.length_drop] at *; omega))) ?_
        · as_aux_lemma => kernel_rfl
        · as_aux_lemma => kernel_rfl
        · as_aux_lemma => kernel_rfl
        refine QRUNV (.binOp .add 9 (.tmp 39) (.const (.string (bs ([32])))) 9) 40 9 ?_ (Nat.le_of_ble_eq_true rfl) (.string (bs ((((((((((reqWord q.kind) ++ ([32])) ++ (Lib.itoa q.id)) ++ ([32])) ++ (Lib.itoa q.cabin)) ++ ([32])) ++ ([45])) ++ ([32])) ++ (Lib.itoa q.size)) ++ ([32])))) (runs_scat (a := ((((((((reqWord q.kind) ++ ([32])) ++ (Lib.itoa q.id)) ++ ([32])) ++ (Lib.itoa q.cabin)) ++ ([32])) ++ ([45])) ++ ([32])) ++ (Lib.itoa q.size)) (b := [32]) ?_ ?_ (by first | omega | (simp only [List.length_append, List.length_cons, List.length_nil, List.length_take, List.length_drop] at *; omega))) ?_
        · as_aux_lemma => kernel_rfl
        · as_aux_lemma => kernel_rfl
        · as_aux_lemma => kernel_rfl
        refine QRUN 2 20 22 [(40, .v (.string (bs ((((((((((reqWord q.kind) ++ ([32])) ++ (Lib.itoa q.id)) ++ ([32])) ++ (Lib.itoa q.cabin)) ++ ([32])) ++ ([45])) ++ ([32])) ++ (Lib.itoa q.size)) ++ ([32]))))), (42, I q.tier)] ?_ rfl ?_
        · as_aux_lemma => kernel_rfl
        have hr13 := itoa_len (n := q.tier) (by first | assumption | exact wr_range _ | (unfold i64R at *; omega) | (simp only [i64R] at *; omega))
        refine QCALL 32 #[vi q.tier] (some 43) ?_ (.string (bs (Lib.itoa q.tier))) (fun w hw => sDigits_c w q.tier (by first | assumption | exact wr_range _ | (unfold i64R at *; omega) | (simp only [i64R] at *; omega))) (by rintro _ ⟨⟩; exact Nat.le_of_ble_eq_true rfl) ?_
        · as_aux_lemma => kernel_rfl
        refine QRUNV (.binOp .add 9 (.tmp 40) (.tmp 43) 9) 44 9 ?_ (Nat.le_of_ble_eq_true rfl) (.string (bs (((((((((((reqWord q.kind) ++ ([32])) ++ (Lib.itoa q.id)) ++ ([32])) ++ (Lib.itoa q.cabin)) ++ ([32])) ++ ([45])) ++ ([32])) ++ (Lib.itoa q.size)) ++ ([32])) ++ (Lib.itoa q.tier)))) (runs_scat (a := (((((((((reqWord q.kind) ++ ([32])) ++ (Lib.itoa q.id)) ++ ([32])) ++ (Lib.itoa q.cabin)) ++ ([32])) ++ ([45])) ++ ([32])) ++ (Lib.itoa q.size)) ++ ([32])) (b := Lib.itoa q.tier) ?_ ?_ (by first | omega | (simp only [List.length_append, List.length_cons, List.length_nil, List.length_take, List.length_drop] at *; omega))) ?_
        · as_aux_lemma => kernel_rfl
        · as_aux_lemma => kernel_rfl
        · as_aux_lemma => kernel_rfl
        refine QRUN 1 24 25 [(2, .v (.string (bs (((((((((((reqWord q.kind) ++ ([32])) ++ (Lib.itoa q.id)) ++ ([32])) ++ (Lib.itoa q.cabin)) ++ ([32])) ++ ([45])) ++ ([32])) ++ (Lib.itoa q.size)) ++ ([32])) ++ (Lib.itoa q.tier)))))] ?_ rfl ?_
        · as_aux_lemma => kernel_rfl
        refine QEND rfl (NEXT (RET (OUTR (PASS trivial (FIN (.string (bs (((((((((((reqWord q.kind) ++ ([32])) ++ (Lib.itoa q.id)) ++ ([32])) ++ (Lib.itoa q.cabin)) ++ ([32])) ++ ([45])) ++ ([32])) ++ (Lib.itoa q.size)) ++ ([32])) ++ (Lib.itoa q.tier)))) ?_ () ?_ [] ?_)))))
        · as_aux_lemma => kernel_rfl
        · (first | (simp [RV, reqLine, reqWord, reqWords, *]; done) | (have h7 : q.kind = 7 := (by omega); simp [RV, reqLine, reqWord, reqWords, *]; done) | (have h9 : ¬ q.from' = -1 := (by omega); simp [RV, reqLine, reqWord, reqWords, *]; done) | (have h9 : q.from' = -1 := (by omega); simp [RV, reqLine, reqWord, reqWords, *]))
        · rfl
    · -- q.kind == 1 = false
      have h3 := bh3
      have h3 := ne_of_beq_false h3
      refine SEQ (REGION [0, 1] rfl (RUN0 2 [] [(1, .p 0 0), (3, .v (.string (bs (reqWord q.kind)))), (12, I q.kind), (45, B (q.kind == 3))] ?_ rfl ?_))
      · as_aux_lemma => kernel_rfl
      refine ENDOPS (NEXT (IF (q.kind == 3) ?_ (fun bh14 => ?_) (fun bh14 => ?_)))
      · as_aux_lemma => kernel_rfl
      · -- q.kind == 3 = true
        have h14 := bh14
        have h14 := eq_of_beq h14
        refine SEQ (REGIONQ ?_ ?_ ?_)
        · as_aux_lemma => kernel_rfl
        · as_aux_lemma => kernel_rfl
        refine QRUN 1 0 1 [(1, .p 0 0), (47, .v (.string (bs (reqWord q.kind))))] ?_ rfl ?_
        · as_aux_lemma => kernel_rfl
        refine QRUNV (.binOp .add 9 (.tmp 47) (.const (.string (bs ([32])))) 9) 48 9 ?_ (Nat.le_of_ble_eq_true rfl) (.string (bs ((reqWord q.kind) ++ ([32])))) (runs_scat (a := reqWord q.kind) (b := [32]) ?_ ?_ (by first | omega | (simp only [List.length_append, List.length_cons, List.length_nil, List.length_take, List.length_drop] at *; omega))) ?_
        · as_aux_lemma => kernel_rfl
        · as_aux_lemma => kernel_rfl
        · as_aux_lemma => kernel_rfl
        refine QRUN 2 2 4 [(1, .p 0 0), (48, .v (.string (bs ((reqWord q.kind) ++ ([32]))))), (50, I q.cabin)] ?_ rfl ?_
        · as_aux_lemma => kernel_rfl
        have hr15 := itoa_len (n := q.cabin) (by first | assumption | exact wr_range _ | (unfold i64R at *; omega) | (simp only [i64R] at *; omega))
        refine QCALL 32 #[vi q.cabin] (some 51) ?_ (.string (bs (Lib.itoa q.cabin))) (fun w hw => sDigits_c w q.cabin (by first | assumption | exact wr_range _ | (unfold i64R at *; omega) | (simp only [i64R] at *; omega))) (by rintro _ ⟨⟩; exact Nat.le_of_ble_eq_true rfl) ?_
        · as_aux_lemma => kernel_rfl
        refine QRUNV (.binOp .add 9 (.tmp 48) (.tmp 51) 9) 52 9 ?_ (Nat.le_of_ble_eq_true rfl) (.string (bs (((reqWord q.kind) ++ ([32])) ++ (Lib.itoa q.cabin)))) (runs_scat (a := (reqWord q.kind) ++ ([32])) (b := Lib.itoa q.cabin) ?_ ?_ (by first | omega | (simp only [List.length_append, List.length_cons, List.length_nil, List.length_take, List.length_drop] at *; omega))) ?_
        · as_aux_lemma => kernel_rfl
        · as_aux_lemma => kernel_rfl
        · as_aux_lemma => kernel_rfl
        refine QRUNV (.binOp .add 9 (.tmp 52) (.const (.string (bs ([32])))) 9) 53 9 ?_ (Nat.le_of_ble_eq_true rfl) (.string (bs ((((reqWord q.kind) ++ ([32])) ++ (Lib.itoa q.cabin)) ++ ([32])))) (runs_scat (a := ((reqWord q.kind) ++ ([32])) ++ (Lib.itoa q.cabin)) (b := [32]) ?_ ?_ (by first | omega | (simp only [List.length_append, List.length_cons, List.length_nil, List.length_take, List.length_drop] at *; omega))) ?_
        · as_aux_lemma => kernel_rfl
        · as_aux_lemma => kernel_rfl
        · as_aux_lemma => kernel_rfl
        refine QRUN 2 7 9 [(53, .v (.string (bs ((((reqWord q.kind) ++ ([32])) ++ (Lib.itoa q.cabin)) ++ ([32]))))), (55, I q.size)] ?_ rfl ?_
        · as_aux_lemma => kernel_rfl
        have hr16 := itoa_len (n := q.size) (by first | assumption | exact wr_range _ | (unfold i64R at *; omega) | (simp only [i64R] at *; omega))
        refine QCALL 32 #[vi q.size] (some 56) ?_ (.string (bs (Lib.itoa q.size))) (fun w hw => sDigits_c w q.size (by first | assumption | exact wr_range _ | (unfold i64R at *; omega) | (simp only [i64R] at *; omega))) (by rintro _ ⟨⟩; exact Nat.le_of_ble_eq_true rfl) ?_
        · as_aux_lemma => kernel_rfl
        refine QRUNV (.binOp .add 9 (.tmp 53) (.tmp 56) 9) 57 9 ?_ (Nat.le_of_ble_eq_true rfl) (.string (bs (((((reqWord q.kind) ++ ([32])) ++ (Lib.itoa q.cabin)) ++ ([32])) ++ (Lib.itoa q.size)))) (runs_scat (a := (((reqWord q.kind) ++ ([32])) ++ (Lib.itoa q.cabin)) ++ ([32])) (b := Lib.itoa q.size) ?_ ?_ (by first | omega | (simp only [List.length_append, List.length_cons, List.length_nil, List.length_take, List.length_drop] at *; omega))) ?_
        · as_aux_lemma => kernel_rfl
        · as_aux_lemma => kernel_rfl
        · as_aux_lemma => kernel_rfl
        refine QRUN 1 11 12 [(2, .v (.string (bs (((((reqWord q.kind) ++ ([32])) ++ (Lib.itoa q.cabin)) ++ ([32])) ++ (Lib.itoa q.size)))))] ?_ rfl ?_
        · as_aux_lemma => kernel_rfl
        refine QEND rfl (NEXT (RET (OUTR (PASS trivial (FIN (.string (bs (((((reqWord q.kind) ++ ([32])) ++ (Lib.itoa q.cabin)) ++ ([32])) ++ (Lib.itoa q.size)))) ?_ () ?_ [] ?_)))))
        · as_aux_lemma => kernel_rfl
        · (first | (simp [RV, reqLine, reqWord, reqWords, *]; done) | (have h7 : q.kind = 7 := (by omega); simp [RV, reqLine, reqWord, reqWords, *]; done) | (have h9 : ¬ q.from' = -1 := (by omega); simp [RV, reqLine, reqWord, reqWords, *]; done) | (have h9 : q.from' = -1 := (by omega); simp [RV, reqLine, reqWord, reqWords, *]))
        · rfl
      · -- q.kind == 3 = false
        have h14 := bh14
        have h14 := ne_of_beq_false h14
        refine SEQ (REGION [0, 1] rfl (RUN0 2 [] [(1, .p 0 0), (3, .v (.string (bs (reqWord q.kind)))), (58, B (q.kind == 6))] ?_ rfl ?_))
        · as_aux_lemma => kernel_rfl
        refine ENDOPS (NEXT (IF (q.kind == 6) ?_ (fun bh17 => ?_) (fun bh17 => ?_)))
        · as_aux_lemma => kernel_rfl
        · -- q.kind == 6 = true
          have h17 := bh17
          have h17 := eq_of_beq h17
          refine SEQ (REGION [0, 1] rfl (RUN0 2 [] [(2, .v (.string (bs (reqWord q.kind))))] ?_ rfl ?_))
          · as_aux_lemma => kernel_rfl
          refine ENDOPS (NEXT (RET (OUTR (PASS trivial (FIN (.string (bs (reqWord q.kind))) ?_ () ?_ [] ?_)))))
          · as_aux_lemma => kernel_rfl
          · (first | (simp [RV, reqLine, reqWord, reqWords, *]; done) | (have h7 : q.kind = 7 := (by omega); simp [RV, reqLine, reqWord, reqWords, *]; done) | (have h9 : ¬ q.from' = -1 := (by omega); simp [RV, reqLine, reqWord, reqWords, *]; done) | (have h9 : q.from' = -1 := (by omega); simp [RV, reqLine, reqWord, reqWords, *]))
          · rfl
        · -- q.kind == 6 = false
          have h17 := bh17
          have h17 := ne_of_beq_false h17
          refine SKIP (OUTN (NEXT (SEQ (REGION [0, 1, 2, 3, 4, 5, 6] rfl (RUN0 1 [1, 2, 3, 4, 5, 6] [(1, .p 0 0), (61, .v (.string (bs (reqWord q.kind))))] ?_ rfl ?_)))))
          · as_aux_lemma => kernel_rfl
          refine OPC (RUNV (.binOp .add 9 (.tmp 61) (.const (.string (bs ([32])))) 9) 62 9 ?_ (Nat.le_of_ble_eq_true rfl) (.string (bs ((reqWord q.kind) ++ ([32])))) (runs_scat (a := reqWord q.kind) (b := [32]) ?_ ?_ (by first | omega | (simp only [List.length_append, List.length_cons, List.length_nil, List.length_take, List.length_drop] at *; omega))) ?_)
          · as_aux_lemma => kernel_rfl
          · as_aux_lemma => kernel_rfl
          · as_aux_lemma => kernel_rfl
          refine RUN0 2 [4, 5, 6] [(62, .v (.string (bs ((reqWord q.kind) ++ ([32]))))), (64, I q.id)] ?_ rfl ?_
          · as_aux_lemma => kernel_rfl
          refine OPC (CALL 32 #[vi q.id] (some 65) ?_ [] [] _ rfl (RV (.string (bs (Lib.itoa q.id)))) (fun w hw => sDigits_c w q.id (by first | assumption | exact wr_range _ | (unfold i64R at *; omega) | (simp only [i64R] at *; omega))) (by rintro _ ⟨⟩; exact Nat.le_of_ble_eq_true rfl) ?_)
          · as_aux_lemma => kernel_rfl
          rintro ⟨⟩
          have hr18 := itoa_len (n := q.id) (by first | assumption | exact wr_range _ | (unfold i64R at *; omega) | (simp only [i64R] at *; omega))
          refine OPC (RUNV (.binOp .add 9 (.tmp 62) (.tmp 65) 9) 66 9 ?_ (Nat.le_of_ble_eq_true rfl) (.string (bs (((reqWord q.kind) ++ ([32])) ++ (Lib.itoa q.id)))) (runs_scat (a := (reqWord q.kind) ++ ([32])) (b := Lib.itoa q.id) ?_ ?_ (by first | omega | (simp only [List.length_append, List.length_cons, List.length_nil, List.length_take, List.length_drop] at *; omega))) ?_)
          · as_aux_lemma => kernel_rfl
          · as_aux_lemma => kernel_rfl
          · as_aux_lemma => kernel_rfl
          refine RUN0 1 [] [(2, .v (.string (bs (((reqWord q.kind) ++ ([32])) ++ (Lib.itoa q.id)))))] ?_ rfl ?_
          · as_aux_lemma => kernel_rfl
          refine ENDOPS (NEXT (RET (FIN (.string (bs (((reqWord q.kind) ++ ([32])) ++ (Lib.itoa q.id)))) ?_ () ?_ [] ?_)))
          · as_aux_lemma => kernel_rfl
          · (first | (simp [RV, reqLine, reqWord, reqWords, *]; done) | (have h7 : q.kind = 7 := (by omega); simp [RV, reqLine, reqWord, reqWords, *]; done) | (have h9 : ¬ q.from' = -1 := (by omega); simp [RV, reqLine, reqWord, reqWords, *]; done) | (have h9 : q.from' = -1 := (by omega); simp [RV, reqLine, reqWord, reqWords, *]))
          · rfl

theorem exReqLine_c (W : World) (q : Req) (htab : Tab Tryd.prog W) : Spec Tryd.prog W [] 4 #[.agg #[vi q.kind, vi q.id, vi q.cabin, vi q.from', vi q.size, vi q.tier]] (RV (.bool true)) := by
  refine ENTER0 (N := 14) (vs := [.agg #[vi q.kind, vi q.id, vi q.cabin, vi q.from', vi q.size, vi q.tier]]) Tryd.func4 rfl rfl (Nat.le_of_ble_eq_true rfl) ?_
  refine SEQ (REGION [0, 1] rfl (RUN 2 [] [(1, .p 0 0)] [(32, [vi q.kind, vi q.id, vi q.cabin, vi q.from', vi q.size, vi q.tier])] ?_ rfl ?_))
  · as_aux_lemma => kernel_rfl
  refine ENDOPS (NEXT (SEQ (REGION [0, 1, 2, 3] rfl (RUN0 1 [1, 2, 3] [(1, .p 0 0), (5, .v (.agg #[vi q.kind, vi q.id, vi q.cabin, vi q.from', vi q.size, vi q.tier]))] ?_ rfl ?_))))
  · as_aux_lemma => kernel_rfl
  refine OPC (CALL 14 #[.agg #[vi q.kind, vi q.id, vi q.cabin, vi q.from', vi q.size, vi q.tier]] (some 6) ?_ [] [] _ rfl (RV (.agg #[vi q.kind, vi q.id, vi q.cabin, vi q.from', vi q.size, vi q.tier])) (fun w hw => toReq_c w q) (by rintro _ ⟨⟩; exact Nat.le_of_ble_eq_true rfl) ?_)
  · as_aux_lemma => kernel_rfl
  rintro ⟨⟩
  refine OPC (CALL 13 #[.agg #[vi q.kind, vi q.id, vi q.cabin, vi q.from', vi q.size, vi q.tier]] (some 7) ?_ [] [] _ rfl (RV (.string (bs (reqLine q)))) (fun w hw => sReqLine_c w q) (by rintro _ ⟨⟩; exact Nat.le_of_ble_eq_true rfl) ?_)
  · as_aux_lemma => kernel_rfl
  rintro ⟨⟩
  have hr1 := reqLine_len q
  refine RUN0 1 [] [(1, .p 0 0), (3, .v (.string (bs (reqLine q))))] ?_ rfl ?_
  · as_aux_lemma => kernel_rfl
  refine ENDOPS (NEXT (SEQ (REGION [0, 1, 2, 3] rfl (RUN0 1 [1, 2, 3] [(3, .v (.string (bs (reqLine q)))), (8, .v (.agg #[vi q.kind, vi q.id, vi q.cabin, vi q.from', vi q.size, vi q.tier]))] ?_ rfl ?_))))
  · as_aux_lemma => kernel_rfl
  refine OPC (CALL 14 #[.agg #[vi q.kind, vi q.id, vi q.cabin, vi q.from', vi q.size, vi q.tier]] (some 9) ?_ [] [] _ rfl (RV (.agg #[vi q.kind, vi q.id, vi q.cabin, vi q.from', vi q.size, vi q.tier])) (fun w hw => toReq_c w q) (by rintro _ ⟨⟩; exact Nat.le_of_ble_eq_true rfl) ?_)
  · as_aux_lemma => kernel_rfl
  rintro ⟨⟩
  refine OPC (CALL 15 #[.agg #[vi q.kind, vi q.id, vi q.cabin, vi q.from', vi q.size, vi q.tier]] (some 10) ?_ [] [] _ rfl (RV (.string (bs (reqLine q)))) (fun w hw => iReqLine_c w q (htab.fr hw.fr)) (by rintro _ ⟨⟩; exact Nat.le_of_ble_eq_true rfl) ?_)
  · as_aux_lemma => kernel_rfl
  rintro ⟨⟩
  have hr2 := reqLine_len q
  refine RUN0 1 [] [(3, .v (.string (bs (reqLine q)))), (4, .v (.string (bs (reqLine q))))] ?_ rfl ?_
  · as_aux_lemma => kernel_rfl
  refine ENDOPS (NEXT (SEQ (SEQ (REGION [0, 1, 2] rfl (RUN0 2 [2] [(11, .v (.string (bs (reqLine q)))), (12, .v (.string (bs (reqLine q))))] ?_ rfl ?_)))))
  · as_aux_lemma => kernel_rfl
  refine OPC (RUNV (.binOp .neq 9 (.tmp 11) (.tmp 12) 9) 13 4 ?_ (Nat.le_of_ble_eq_true rfl) (.bool (!((reqLine q) == (reqLine q)))) (runs_sneq (a := reqLine q) (b := reqLine q) ?_ ?_) ?_)
  · as_aux_lemma => kernel_rfl
  · as_aux_lemma => kernel_rfl
  · as_aux_lemma => kernel_rfl
  refine ENDOPS (NEXT (IF (!((reqLine q) == (reqLine q))) ?_ (fun bh3 => ?_) (fun bh3 => ?_)))
  · as_aux_lemma => kernel_rfl
  · -- !((reqLine q) == (reqLine q)) = true
    have h3 := bh3
    have h3 := notT h3
    have h3 := ne_of_beq_false h3
    refine SEQ (REGION [0] rfl (RUN0 1 [] [(2, B false)] ?_ rfl ?_))
    · as_aux_lemma => kernel_rfl
    refine ENDOPS (NEXT (RET (PASS trivial (FIN (.bool false) ?_ () ?_ [] ?_))))
    · as_aux_lemma => kernel_rfl
    · simp_all [RV, eqReq_refl]
    · rfl
  · -- !((reqLine q) == (reqLine q)) = false
    have h3 := bh3
    have h3 := notF h3
    have h3 := eq_of_beq h3
    refine SKIP (NEXT (SEQ (REGION [0] rfl (RUN0 1 [] [(2, B true)] ?_ rfl ?_))))
    · as_aux_lemma => kernel_rfl
    refine ENDOPS (NEXT (RET (FIN (.bool true) ?_ () ?_ [] ?_)))
    · as_aux_lemma => kernel_rfl
    · simp_all [RV, eqReq_refl]
    · rfl

theorem sActLine_c (W : World) (a : Act) (a_keep_a : Option Addr) (a_keep_c : Nat) (ha_keep : Rd intL W a_keep_a a.keep) : Spec Tryd.prog W [] 22 #[.agg #[vi a.kind, vi a.req.kind, vi a.req.id, vi a.req.cabin, vi a.req.from', vi a.req.size, vi a.req.tier, vi a.n, .slice a_keep_a a.keep.length a_keep_c]] (RV (.string (bs (actLine a)))) := by
  refine ENTER0 (N := 41) (vs := [.agg #[vi a.kind, vi a.req.kind, vi a.req.id, vi a.req.cabin, vi a.req.from', vi a.req.size, vi a.req.tier, vi a.n, .slice a_keep_a a.keep.length a_keep_c]]) Tryd.func22 rfl rfl (Nat.le_of_ble_eq_true rfl) ?_
  have ha_keep_len := ha_keep.len
  refine SEQ (REGION [0, 1] rfl (RUN 2 [] [(1, .p 0 0)] [(49, [vi a.kind, vi a.req.kind, vi a.req.id, vi a.req.cabin, vi a.req.from', vi a.req.size, vi a.req.tier, vi a.n, .slice a_keep_a a.keep.length a_keep_c])] ?_ rfl ?_))
  · as_aux_lemma => kernel_rfl
  refine ENDOPS (NEXT (SEQ (SEQ (REGION [0, 1, 2] rfl (RUN0 1 [1, 2] [(1, .p 0 0), (5, .v (.agg #[vi a.kind, vi a.req.kind, vi a.req.id, vi a.req.cabin, vi a.req.from', vi a.req.size, vi a.req.tier, vi a.n, .slice a_keep_a a.keep.length a_keep_c]))] ?_ rfl ?_)))))
  · as_aux_lemma => kernel_rfl
  refine OPC (CALL 42 #[.agg #[vi a.kind, vi a.req.kind, vi a.req.id, vi a.req.cabin, vi a.req.from', vi a.req.size, vi a.req.tier, vi a.n, .slice a_keep_a a.keep.length a_keep_c]] (some 6) ?_ [] [] _ rfl (RV (.bool (actOk a))) (fun w hw => sActOk_c w a a_keep_a a_keep_c (ha_keep.fr hw.fr)) (by rintro _ ⟨⟩; exact Nat.le_of_ble_eq_true rfl) ?_)
  · as_aux_lemma => kernel_rfl
  rintro ⟨⟩
  refine RUN0 1 [] [(1, .p 0 0), (7, B (!(actOk a)))] ?_ rfl ?_
  · as_aux_lemma => kernel_rfl
  refine ENDOPS (NEXT (IF (!(actOk a)) ?_ (fun bh1 => ?_) (fun bh1 => ?_)))
  · as_aux_lemma => kernel_rfl
  · -- !(actOk a) = true
    have h1 := bh1
    have h1 := notT h1
    refine SEQ (REGION [0] rfl (RUN0 1 [] [(2, .v (.string (bs ([]))))] ?_ rfl ?_))
    · as_aux_lemma => kernel_rfl
    refine ENDOPS (NEXT (RET (PASS trivial (FIN (.string (bs ([]))) ?_ () ?_ [] ?_))))
    · as_aux_lemma => kernel_rfl
    · (simp_all [RV, actLine, joinSp])
    · rfl
  · -- !(actOk a) = false
    have h1 := bh1
    have h1 := notF h1
    have hq := actOk_rng h1
    refine SKIP (NEXT (SEQ (SEQ (REGION [0, 1] rfl (RUN0 2 [] [(1, .p 0 0), (9, I a.kind)] ?_ rfl ?_)))))
    · as_aux_lemma => kernel_rfl
    refine ENDOPS (NEXT (BLOCK (SEQ (REGION [0, 1] rfl (RUN0 2 [] [(1, .p 0 0), (9, I a.kind), (10, B (a.kind == 1))] ?_ rfl ?_)))))
    · as_aux_lemma => kernel_rfl
    refine ENDOPS (NEXT (IF (a.kind == 1) ?_ (fun bh2 => ?_) (fun bh2 => ?_)))
    · as_aux_lemma => kernel_rfl
    · -- a.kind == 1 = true
      have h2 := bh2
      have h2 := eq_of_beq h2
      refine SEQ (REGION [0, 1, 2, 3, 4] rfl (RUN0 2 [2, 3, 4] [(13, .v (.agg #[vi a.req.kind, vi a.req.id, vi a.req.cabin, vi a.req.from', vi a.req.size, vi a.req.tier]))] ?_ rfl ?_))
      · as_aux_lemma => kernel_rfl
      refine OPC (CALL 13 #[.agg #[vi a.req.kind, vi a.req.id, vi a.req.cabin, vi a.req.from', vi a.req.size, vi a.req.tier]] (some 14) ?_ [] [] _ rfl (RV (.string (bs (reqLine a.req)))) (fun w hw => sReqLine_c w a.req) (by rintro _ ⟨⟩; exact Nat.le_of_ble_eq_true rfl) ?_)
      · as_aux_lemma => kernel_rfl
      rintro ⟨⟩
      have hr3 := reqLine_len a.req
      refine OPC (RUNV (.binOp .add 9 (.const (.string (bs ([108, 97, 121, 32])))) (.tmp 14) 9) 15 9 ?_ (Nat.le_of_ble_eq_true rfl) (.string (bs (([108, 97, 121, 32]) ++ (reqLine a.req)))) (runs_scat (a := [108, 97, 121, 32]) (b := reqLine a.req) ?_ ?_ (by first | omega | (simp only [List.length_append, List.length_cons, List.length_nil, List.length_take, List.length_drop] at *; omega))) ?_)
      · as_aux_lemma => kernel_rfl
      · as_aux_lemma => kernel_rfl
      · as_aux_lemma => kernel_rfl
      refine RUN0 1 [] [(2, .v (.string (bs (([108, 97, 121, 32]) ++ (reqLine a.req)))))] ?_ rfl ?_
      · as_aux_lemma => kernel_rfl
      refine ENDOPS (NEXT (RET (OUTR (PASS trivial (FIN (.string (bs (([108, 97, 121, 32]) ++ (reqLine a.req)))) ?_ () ?_ [] ?_)))))
      · as_aux_lemma => kernel_rfl
      · (simp_all [RV, actLine, joinSp])
      · rfl
    · -- a.kind == 1 = false
      have h2 := bh2
      have h2 := ne_of_beq_false h2
      refine SEQ (REGION [0, 1] rfl (RUN0 2 [] [(1, .p 0 0), (9, I a.kind), (16, B (a.kind == 2))] ?_ rfl ?_))
      · as_aux_lemma => kernel_rfl
      refine ENDOPS (NEXT (IF (a.kind == 2) ?_ (fun bh4 => ?_) (fun bh4 => ?_)))
      · as_aux_lemma => kernel_rfl
      · -- a.kind == 2 = true
        have h4 := bh4
        have h4 := eq_of_beq h4
        refine SEQ (REGION [0] rfl (RUN0 1 [] [(2, .v (.string (bs ([115, 101, 97, 108]))))] ?_ rfl ?_))
        · as_aux_lemma => kernel_rfl
        refine ENDOPS (NEXT (RET (OUTR (PASS trivial (FIN (.string (bs ([115, 101, 97, 108]))) ?_ () ?_ [] ?_)))))
        · as_aux_lemma => kernel_rfl
        · (simp_all [RV, actLine, joinSp])
        · rfl
      · -- a.kind == 2 = false
        have h4 := bh4
        have h4 := ne_of_beq_false h4
        refine SEQ (REGION [0, 1] rfl (RUN0 2 [] [(1, .p 0 0), (18, B (a.kind == 3))] ?_ rfl ?_))
        · as_aux_lemma => kernel_rfl
        refine ENDOPS (NEXT (IF (a.kind == 3) ?_ (fun bh5 => ?_) (fun bh5 => ?_)))
        · as_aux_lemma => kernel_rfl
        · -- a.kind == 3 = true
          have h5 := bh5
          have h5 := eq_of_beq h5
          refine SEQ (REGION [0, 1, 2, 3, 4] rfl (RUN0 2 [2, 3, 4] [(21, I a.n)] ?_ rfl ?_))
          · as_aux_lemma => kernel_rfl
          refine OPC (CALL 32 #[vi a.n] (some 22) ?_ [] [] _ rfl (RV (.string (bs (Lib.itoa a.n)))) (fun w hw => sDigits_c w a.n (by first | assumption | exact wr_range _ | (unfold i64R at *; omega) | (simp only [i64R] at *; omega))) (by rintro _ ⟨⟩; exact Nat.le_of_ble_eq_true rfl) ?_)
          · as_aux_lemma => kernel_rfl
          rintro ⟨⟩
          have hr6 := itoa_len (n := a.n) (by first | assumption | exact wr_range _ | (unfold i64R at *; omega) | (simp only [i64R] at *; omega))
          refine OPC (RUNV (.binOp .add 9 (.const (.string (bs ([109, 97, 114, 107, 32])))) (.tmp 22) 9) 23 9 ?_ (Nat.le_of_ble_eq_true rfl) (.string (bs (([109, 97, 114, 107, 32]) ++ (Lib.itoa a.n)))) (runs_scat (a := [109, 97, 114, 107, 32]) (b := Lib.itoa a.n) ?_ ?_ (by first | omega | (simp only [List.length_append, List.length_cons, List.length_nil, List.length_take, List.length_drop] at *; omega))) ?_)
          · as_aux_lemma => kernel_rfl
          · as_aux_lemma => kernel_rfl
          · as_aux_lemma => kernel_rfl
          refine RUN0 1 [] [(2, .v (.string (bs (([109, 97, 114, 107, 32]) ++ (Lib.itoa a.n)))))] ?_ rfl ?_
          · as_aux_lemma => kernel_rfl
          refine ENDOPS (NEXT (RET (OUTR (PASS trivial (FIN (.string (bs (([109, 97, 114, 107, 32]) ++ (Lib.itoa a.n)))) ?_ () ?_ [] ?_)))))
          · as_aux_lemma => kernel_rfl
          · (simp_all [RV, actLine, joinSp])
          · rfl
        · -- a.kind == 3 = false
          have h5 := bh5
          have h5 := ne_of_beq_false h5
          refine SKIP (OUTN (NEXT (SEQ (REGION [0] rfl (RUN0 1 [] [(1, .p 0 0), (3, .v (.string (bs ([102, 97, 108, 108]))))] ?_ rfl ?_)))))
          · as_aux_lemma => kernel_rfl
          refine ENDOPS (NEXT (SEQ (SEQ (REGION [0] rfl (RUN0 1 [] [(1, .p 0 0), (3, .v (.string (bs ([102, 97, 108, 108])))), (4, I 0)] ?_ rfl ?_)))))
          · as_aux_lemma => kernel_rfl
          refine ENDOPS (NEXT (BLOCK (LOOP (ι := Nat × (List Int) × (List UInt8)) (fun j => [(1, .p 0 0), (3, .v (.string (bs j.2.2))), (4, I (j.1 : Int))]) (fun j => [(49, [vi a.kind, vi a.req.kind, vi a.req.id, vi a.req.cabin, vi a.req.from', vi a.req.size, vi a.req.tier, vi a.n, .slice a_keep_a a.keep.length a_keep_c])]) (fun j => []) (fun j => j.1 + j.2.1.length = a.keep.length ∧ a.keep.drop j.1 = j.2.1 ∧ joinSp [102, 97, 108, 108] a.keep = joinSp j.2.2 j.2.1 ∧ j.2.2.length ≤ 4 + 22 * j.1) (fun j => j.2.1.length) (0, a.keep, [102, 97, 108, 108]) [1, 3, 4] ⟨by simp, rfl, rfl, by simp⟩ ?_ rfl rfl ?_)))
          · as_aux_lemma => kernel_rfl
          rintro ⟨k, ys, out⟩ ⟨hk, hd, hv0, hv1⟩
          dsimp only at hk hd hv0 hv1
          refine SEQ (SEQ (REGION [0, 1, 2, 3, 4] rfl (RUN0 5 [] [(1, .p 0 0), (3, .v (.string (bs out))), (4, I (k : Int)), (28, B (decide ((k : Int) < (a.keep.length : Int))))] ?_ rfl ?_)))
          · as_aux_lemma => kernel_rfl
          refine ENDOPS (NEXT (IF (decide ((k : Int) < (a.keep.length : Int))) ?_ (fun bh7 => ?_) (fun bh7 => ?_)))
          · as_aux_lemma => kernel_rfl
          · -- decide ((k : Int) < (a.keep.length : Int)) = true
            have h7 := bh7
            have h7 := of_decide_eq_true h7
            obtain ⟨y8, ys9, rfl, hx_y8, hd_y8, hl_y8⟩ := drop_cons hd hk (by omega)
            have hr_y8 : i64R y8 := hq.2.2.2.2 _ (List.mem_of_getElem? hx_y8)
            refine SKIP (NEXT (SEQ (BLOCK (REGION [0, 1, 2, 3, 4, 5, 6, 7, 8, 9] rfl (RUN0 1 [1, 2, 3, 4, 5, 6, 7, 8, 9] [(1, .p 0 0), (4, I (k : Int)), (31, .v (.string (bs out)))] ?_ rfl ?_)))))
            · as_aux_lemma => kernel_rfl
            refine OPC (RUNV (.binOp .add 9 (.tmp 31) (.const (.string (bs ([32])))) 9) 32 9 ?_ (Nat.le_of_ble_eq_true rfl) (.string (bs (out ++ ([32])))) (runs_scat (a := out) (b := [32]) ?_ ?_ (by first | omega | (simp only [List.length_append, List.length_cons, List.length_nil, List.length_take, List.length_drop] at *; omega))) ?_)
            · as_aux_lemma => kernel_rfl
            · as_aux_lemma => kernel_rfl
            · as_aux_lemma => kernel_rfl
            refine RUN0 3 [5, 6, 7, 8, 9] [(1, .p 0 0), (4, I (k : Int)), (32, .v (.string (bs (out ++ ([32]))))), (34, .v (.slice a_keep_a a.keep.length a_keep_c)), (35, I (k : Int))] ?_ rfl ?_
            · as_aux_lemma => kernel_rfl
            refine OPC (INDEX 22 (.tmp 34) (.tmp 35) 36 0 ?_ (Nat.le_of_ble_eq_true rfl) a_keep_a a.keep.length a_keep_c .i64 (k : Int) 3 1 ?_ ?_ ?_ ?_ (Rd.some ha_keep (by omega)) (by omega) (by omega) ?_)
            · as_aux_lemma => kernel_rfl
            · as_aux_lemma => kernel_rfl
            · as_aux_lemma => kernel_rfl
            · as_aux_lemma => kernel_rfl
            · as_aux_lemma => kernel_rfl
            refine OPC (LOADE 3 (.tmp 36) 37 3 ?_ (Nat.le_of_ble_eq_true rfl) a_keep_a (k * 1) 0 [vi y8] (vi y8) ?_ (fun w hw => (ha_keep.fr hw.fr).flat hx_y8) ?_ ?_)
            · as_aux_lemma => kernel_rfl
            · as_aux_lemma => kernel_rfl
            · as_aux_lemma => kernel_rfl
            refine OPC (CALL 32 #[vi y8] (some 38) ?_ [] [] _ rfl (RV (.string (bs (Lib.itoa y8)))) (fun w hw => sDigits_c w y8 (by first | assumption | exact wr_range _ | (unfold i64R at *; omega) | (simp only [i64R] at *; omega))) (by rintro _ ⟨⟩; exact Nat.le_of_ble_eq_true rfl) ?_)
            · as_aux_lemma => kernel_rfl
            rintro ⟨⟩
            have hr10 := itoa_len (n := y8) (by first | assumption | exact wr_range _ | (unfold i64R at *; omega) | (simp only [i64R] at *; omega))
            refine OPC (RUNV (.binOp .add 9 (.tmp 32) (.tmp 38) 9) 39 9 ?_ (Nat.le_of_ble_eq_true rfl) (.string (bs ((out ++ ([32])) ++ (Lib.itoa y8)))) (runs_scat (a := out ++ ([32])) (b := Lib.itoa y8) ?_ ?_ (by first | omega | (simp only [List.length_append, List.length_cons, List.length_nil, List.length_take, List.length_drop] at *; omega))) ?_)
            · as_aux_lemma => kernel_rfl
            · as_aux_lemma => kernel_rfl
            · as_aux_lemma => kernel_rfl
            refine RUN0 1 [] [(1, .p 0 0), (3, .v (.string (bs ((out ++ ([32])) ++ (Lib.itoa y8))))), (4, I (k : Int))] ?_ rfl ?_
            · as_aux_lemma => kernel_rfl
            refine ENDOPS (OUTN (NEXT (REGION [0, 1, 2] rfl (RUN0 2 [2] [(1, .p 0 0), (3, .v (.string (bs ((out ++ ([32])) ++ (Lib.itoa y8))))), (30, I (wr ((k : Int) + 1)))] ?_ rfl ?_))))
            · as_aux_lemma => kernel_rfl
            refine CAST (d := 30) (vi (wr ((k : Int) + 1))) (vi ((k + 1 : Nat) : Int)) ?_ (vi_cast (by omega) (by omega)) ?_
            · as_aux_lemma => kernel_rfl
            refine RUN0 1 [] [(1, .p 0 0), (3, .v (.string (bs ((out ++ ([32])) ++ (Lib.itoa y8))))), (4, I ((k + 1 : Nat) : Int))] ?_ rfl ?_
            · as_aux_lemma => kernel_rfl
            refine ENDOPS (BACK (k + 1, ys9, (out ++ ([32])) ++ (Lib.itoa y8)) [1, 3, 4] 1 [] _ ⟨hl_y8, hd_y8, hv0.trans (by simp [joinSp]), (by simp only [List.length_append, List.length_cons, List.length_nil]; omega)⟩ (by simp) ?_ rfl rfl rfl)
            · as_aux_lemma => kernel_rfl
          · -- decide ((k : Int) < (a.keep.length : Int)) = false
            have h7 := bh7
            have h7 := of_decide_eq_false h7
            obtain rfl := drop_nil hk (by omega)
            refine EXIT (PASS trivial (PASS trivial (OUT (NEXT (SEQ (REGION [0, 1] rfl (RUN0 2 [] [(2, .v (.string (bs out)))] ?_ rfl ?_)))))))
            · as_aux_lemma => kernel_rfl
            refine ENDOPS (NEXT (RET (FIN (.string (bs out)) ?_ () ?_ [] ?_)))
            · as_aux_lemma => kernel_rfl
            · (simp_all [RV, actLine, joinSp])
            · rfl

theorem iActLine_c (W : World) (a : Act) (a_keep_a : Option Addr) (a_keep_c : Nat) (ha_keep : Rd intL W a_keep_a a.keep) (htab : Tab Tryd.prog W) : Spec Tryd.prog W [] 24 #[.agg #[vi a.kind, vi a.req.kind, vi a.req.id, vi a.req.cabin, vi a.req.from', vi a.req.size, vi a.req.tier, vi a.n, .slice a_keep_a a.keep.length a_keep_c]] (RV (.string (bs (actLine a)))) := by
  refine ENTER0 (N := 39) (vs := [.agg #[vi a.kind, vi a.req.kind, vi a.req.id, vi a.req.cabin, vi a.req.from', vi a.req.size, vi a.req.tier, vi a.n, .slice a_keep_a a.keep.length a_keep_c]]) Tryd.func24 rfl rfl (Nat.le_of_ble_eq_true rfl) ?_
  have ha_keep_len := ha_keep.len
  refine SEQ (REGION [0, 1] rfl (RUN 2 [] [(1, .p 0 0)] [(49, [vi a.kind, vi a.req.kind, vi a.req.id, vi a.req.cabin, vi a.req.from', vi a.req.size, vi a.req.tier, vi a.n, .slice a_keep_a a.keep.length a_keep_c])] ?_ rfl ?_))
  · as_aux_lemma => kernel_rfl
  refine ENDOPS (NEXT (SEQ (SEQ (REGION [0, 1, 2] rfl (RUN0 1 [1, 2] [(1, .p 0 0), (6, .v (.agg #[vi a.kind, vi a.req.kind, vi a.req.id, vi a.req.cabin, vi a.req.from', vi a.req.size, vi a.req.tier, vi a.n, .slice a_keep_a a.keep.length a_keep_c]))] ?_ rfl ?_)))))
  · as_aux_lemma => kernel_rfl
  refine OPC (CALL 43 #[.agg #[vi a.kind, vi a.req.kind, vi a.req.id, vi a.req.cabin, vi a.req.from', vi a.req.size, vi a.req.tier, vi a.n, .slice a_keep_a a.keep.length a_keep_c]] (some 7) ?_ [] [] _ rfl (RV (.bool (actOk a))) (fun w hw => iActOk_c w a a_keep_a a_keep_c (ha_keep.fr hw.fr)) (by rintro _ ⟨⟩; exact Nat.le_of_ble_eq_true rfl) ?_)
  · as_aux_lemma => kernel_rfl
  rintro ⟨⟩
  refine RUN0 1 [] [(1, .p 0 0), (8, B (!(actOk a)))] ?_ rfl ?_
  · as_aux_lemma => kernel_rfl
  refine ENDOPS (NEXT (IF (!(actOk a)) ?_ (fun bh1 => ?_) (fun bh1 => ?_)))
  · as_aux_lemma => kernel_rfl
  · -- !(actOk a) = true
    have h1 := bh1
    have h1 := notT h1
    refine SEQ (REGION [0] rfl (RUN0 1 [] [(2, .v (.string (bs ([]))))] ?_ rfl ?_))
    · as_aux_lemma => kernel_rfl
    refine ENDOPS (NEXT (RET (PASS trivial (FIN (.string (bs ([]))) ?_ () ?_ [] ?_))))
    · as_aux_lemma => kernel_rfl
    · (simp_all [RV, actLine, joinSp])
    · rfl
  · -- !(actOk a) = false
    have h1 := bh1
    have h1 := notF h1
    have hq := actOk_rng h1
    refine SKIP (NEXT (SEQ (SEQ (REGION [0, 1] rfl (RUN0 2 [] [(1, .p 0 0), (10, I a.kind)] ?_ rfl ?_)))))
    · as_aux_lemma => kernel_rfl
    refine ENDOPS (NEXT (BLOCK (SEQ (REGION [0, 1] rfl (RUN0 2 [] [(1, .p 0 0), (10, I a.kind), (11, B (a.kind == 1))] ?_ rfl ?_)))))
    · as_aux_lemma => kernel_rfl
    refine ENDOPS (NEXT (IF (a.kind == 1) ?_ (fun bh2 => ?_) (fun bh2 => ?_)))
    · as_aux_lemma => kernel_rfl
    · -- a.kind == 1 = true
      have h2 := bh2
      have h2 := eq_of_beq h2
      refine SEQ (REGION [0, 1, 2, 3, 4] rfl (RUN0 2 [2, 3, 4] [(14, .v (.agg #[vi a.req.kind, vi a.req.id, vi a.req.cabin, vi a.req.from', vi a.req.size, vi a.req.tier]))] ?_ rfl ?_))
      · as_aux_lemma => kernel_rfl
      refine OPC (CALL 15 #[.agg #[vi a.req.kind, vi a.req.id, vi a.req.cabin, vi a.req.from', vi a.req.size, vi a.req.tier]] (some 15) ?_ [] [] _ rfl (RV (.string (bs (reqLine a.req)))) (fun w hw => iReqLine_c w a.req (htab.fr hw.fr)) (by rintro _ ⟨⟩; exact Nat.le_of_ble_eq_true rfl) ?_)
      · as_aux_lemma => kernel_rfl
      rintro ⟨⟩
      have hr3 := reqLine_len a.req
      refine OPC (RUNV (.binOp .add 9 (.const (.string (bs ([108, 97, 121, 32])))) (.tmp 15) 9) 16 9 ?_ (Nat.le_of_ble_eq_true rfl) (.string (bs (([108, 97, 121, 32]) ++ (reqLine a.req)))) (runs_scat (a := [108, 97, 121, 32]) (b := reqLine a.req) ?_ ?_ (by first | omega | (simp only [List.length_append, List.length_cons, List.length_nil, List.length_take, List.length_drop] at *; omega))) ?_)
      · as_aux_lemma => kernel_rfl
      · as_aux_lemma => kernel_rfl
      · as_aux_lemma => kernel_rfl
      refine RUN0 1 [] [(2, .v (.string (bs (([108, 97, 121, 32]) ++ (reqLine a.req)))))] ?_ rfl ?_
      · as_aux_lemma => kernel_rfl
      refine ENDOPS (NEXT (RET (OUTR (PASS trivial (FIN (.string (bs (([108, 97, 121, 32]) ++ (reqLine a.req)))) ?_ () ?_ [] ?_)))))
      · as_aux_lemma => kernel_rfl
      · (simp_all [RV, actLine, joinSp])
      · rfl
    · -- a.kind == 1 = false
      have h2 := bh2
      have h2 := ne_of_beq_false h2
      refine SEQ (REGION [0, 1] rfl (RUN0 2 [] [(1, .p 0 0), (10, I a.kind), (17, B (a.kind == 2))] ?_ rfl ?_))
      · as_aux_lemma => kernel_rfl
      refine ENDOPS (NEXT (IF (a.kind == 2) ?_ (fun bh4 => ?_) (fun bh4 => ?_)))
      · as_aux_lemma => kernel_rfl
      · -- a.kind == 2 = true
        have h4 := bh4
        have h4 := eq_of_beq h4
        refine SEQ (REGION [0] rfl (RUN0 1 [] [(2, .v (.string (bs ([115, 101, 97, 108]))))] ?_ rfl ?_))
        · as_aux_lemma => kernel_rfl
        refine ENDOPS (NEXT (RET (OUTR (PASS trivial (FIN (.string (bs ([115, 101, 97, 108]))) ?_ () ?_ [] ?_)))))
        · as_aux_lemma => kernel_rfl
        · (simp_all [RV, actLine, joinSp])
        · rfl
      · -- a.kind == 2 = false
        have h4 := bh4
        have h4 := ne_of_beq_false h4
        refine SEQ (REGION [0, 1] rfl (RUN0 2 [] [(1, .p 0 0), (19, B (a.kind == 3))] ?_ rfl ?_))
        · as_aux_lemma => kernel_rfl
        refine ENDOPS (NEXT (IF (a.kind == 3) ?_ (fun bh5 => ?_) (fun bh5 => ?_)))
        · as_aux_lemma => kernel_rfl
        · -- a.kind == 3 = true
          have h5 := bh5
          have h5 := eq_of_beq h5
          refine SEQ (REGION [0, 1, 2, 3, 4] rfl (RUN0 2 [2, 3, 4] [(22, I a.n)] ?_ rfl ?_))
          · as_aux_lemma => kernel_rfl
          refine OPC (CALL 35 #[vi a.n] (some 23) ?_ [] [] _ rfl (RV (.string (bs (Lib.itoa a.n)))) (fun w hw => iDigits_c w a.n (by first | assumption | exact wr_range _ | (unfold i64R at *; omega) | (simp only [i64R] at *; omega)) (htab.fr hw.fr)) (by rintro _ ⟨⟩; exact Nat.le_of_ble_eq_true rfl) ?_)
          · as_aux_lemma => kernel_rfl
          rintro ⟨⟩
          have hr6 := itoa_len (n := a.n) (by first | assumption | exact wr_range _ | (unfold i64R at *; omega) | (simp only [i64R] at *; omega))
          refine OPC (RUNV (.binOp .add 9 (.const (.string (bs ([109, 97, 114, 107, 32])))) (.tmp 23) 9) 24 9 ?_ (Nat.le_of_ble_eq_true rfl) (.string (bs (([109, 97, 114, 107, 32]) ++ (Lib.itoa a.n)))) (runs_scat (a := [109, 97, 114, 107, 32]) (b := Lib.itoa a.n) ?_ ?_ (by first | omega | (simp only [List.length_append, List.length_cons, List.length_nil, List.length_take, List.length_drop] at *; omega))) ?_)
          · as_aux_lemma => kernel_rfl
          · as_aux_lemma => kernel_rfl
          · as_aux_lemma => kernel_rfl
          refine RUN0 1 [] [(2, .v (.string (bs (([109, 97, 114, 107, 32]) ++ (Lib.itoa a.n)))))] ?_ rfl ?_
          · as_aux_lemma => kernel_rfl
          refine ENDOPS (NEXT (RET (OUTR (PASS trivial (FIN (.string (bs (([109, 97, 114, 107, 32]) ++ (Lib.itoa a.n)))) ?_ () ?_ [] ?_)))))
          · as_aux_lemma => kernel_rfl
          · (simp_all [RV, actLine, joinSp])
          · rfl
        · -- a.kind == 3 = false
          have h5 := bh5
          have h5 := ne_of_beq_false h5
          refine SKIP (OUTN (NEXT (SEQ (REGION [0] rfl (RUN0 1 [] [(1, .p 0 0), (3, .v (.string (bs ([102, 97, 108, 108]))))] ?_ rfl ?_)))))
          · as_aux_lemma => kernel_rfl
          refine ENDOPS (NEXT (SEQ (SEQ (REGION [0, 1, 2, 3] rfl (RUN0 4 [] [(3, .v (.string (bs ([102, 97, 108, 108])))), (26, .v (.slice a_keep_a a.keep.length a_keep_c)), (27, I (a.keep.length : Int)), (28, I 0)] ?_ rfl ?_)))))
          · as_aux_lemma => kernel_rfl
          refine ENDOPS (NEXT (BLOCK (LOOP (ι := Nat × (List Int) × (List UInt8)) (fun j => [(3, .v (.string (bs j.2.2))), (26, .v (.slice a_keep_a a.keep.length a_keep_c)), (27, I (a.keep.length : Int)), (28, I (j.1 : Int))]) (fun j => [(49, [vi a.kind, vi a.req.kind, vi a.req.id, vi a.req.cabin, vi a.req.from', vi a.req.size, vi a.req.tier, vi a.n, .slice a_keep_a a.keep.length a_keep_c])]) (fun j => []) (fun j => j.1 + j.2.1.length = a.keep.length ∧ a.keep.drop j.1 = j.2.1 ∧ joinSp [102, 97, 108, 108] a.keep = joinSp j.2.2 j.2.1 ∧ j.2.2.length ≤ 4 + 22 * j.1) (fun j => j.2.1.length) (0, a.keep, [102, 97, 108, 108]) [3, 26, 27, 28] ⟨by simp, rfl, rfl, by simp⟩ ?_ rfl rfl ?_)))
          · as_aux_lemma => kernel_rfl
          rintro ⟨k, ys, out⟩ ⟨hk, hd, hv0, hv1⟩
          dsimp only at hk hd hv0 hv1
          refine SEQ (REGION [0] rfl (RUN0 1 [] [(3, .v (.string (bs out))), (26, .v (.slice a_keep_a a.keep.length a_keep_c)), (27, I (a.keep.length : Int)), (28, I (k : Int)), (29, B (decide ((k : Int) < (a.keep.length : Int))))] ?_ rfl ?_))
          · as_aux_lemma => kernel_rfl
          refine ENDOPS (NEXT (SEQ (IF (decide ((k : Int) < (a.keep.length : Int))) ?_ (fun bh7 => ?_) (fun bh7 => ?_))))
          · as_aux_lemma => kernel_rfl
          · -- decide ((k : Int) < (a.keep.length : Int)) = true
            have h7 := bh7
            have h7 := of_decide_eq_true h7
            obtain ⟨y8, ys9, rfl, hx_y8, hd_y8, hl_y8⟩ := drop_cons hd hk (by omega)
            have hr_y8 : i64R y8 := hq.2.2.2.2 _ (List.mem_of_getElem? hx_y8)
            refine SKIP (NEXT (SEQ (BLOCK (SEQ (REGION [0, 1, 2] rfl (OPC (INDEX 22 (.tmp 26) (.tmp 28) 30 0 ?_ (Nat.le_of_ble_eq_true rfl) a_keep_a a.keep.length a_keep_c .i64 (k : Int) 3 1 ?_ ?_ ?_ ?_ (Rd.some ha_keep (by omega)) (by omega) (by omega) ?_)))))))
            · as_aux_lemma => kernel_rfl
            · as_aux_lemma => kernel_rfl
            · as_aux_lemma => kernel_rfl
            · as_aux_lemma => kernel_rfl
            · as_aux_lemma => kernel_rfl
            refine OPC (LOADE 3 (.tmp 30) 31 3 ?_ (Nat.le_of_ble_eq_true rfl) a_keep_a (k * 1) 0 [vi y8] (vi y8) ?_ (fun w hw => (ha_keep.fr hw.fr).flat hx_y8) ?_ ?_)
            · as_aux_lemma => kernel_rfl
            · as_aux_lemma => kernel_rfl
            · as_aux_lemma => kernel_rfl
            refine RUN0 1 [] [(3, .v (.string (bs out))), (5, I y8), (26, .v (.slice a_keep_a a.keep.length a_keep_c)), (27, I (a.keep.length : Int)), (28, I (k : Int))] ?_ rfl ?_
            · as_aux_lemma => kernel_rfl
            refine ENDOPS (NEXT (REGION [0, 1, 2, 3, 4, 5] rfl (RUN0 2 [2, 3, 4, 5] [(26, .v (.slice a_keep_a a.keep.length a_keep_c)), (27, I (a.keep.length : Int)), (28, I (k : Int)), (32, .v (.string (bs out))), (33, I y8)] ?_ rfl ?_)))
            · as_aux_lemma => kernel_rfl
            refine OPC (CALL 35 #[vi y8] (some 34) ?_ [] [] _ rfl (RV (.string (bs (Lib.itoa y8)))) (fun w hw => iDigits_c w y8 (by first | assumption | exact wr_range _ | (unfold i64R at *; omega) | (simp only [i64R] at *; omega)) (htab.fr hw.fr)) (by rintro _ ⟨⟩; exact Nat.le_of_ble_eq_true rfl) ?_)
            · as_aux_lemma => kernel_rfl
            rintro ⟨⟩
            have hr10 := itoa_len (n := y8) (by first | assumption | exact wr_range _ | (unfold i64R at *; omega) | (simp only [i64R] at *; omega))
            refine OPC (RUNV (.binOp .add 9 (.const (.string (bs ([32])))) (.tmp 34) 9) 35 9 ?_ (Nat.le_of_ble_eq_true rfl) (.string (bs (([32]) ++ (Lib.itoa y8)))) (runs_scat (a := [32]) (b := Lib.itoa y8) ?_ ?_ (by first | omega | (simp only [List.length_append, List.length_cons, List.length_nil, List.length_take, List.length_drop] at *; omega))) ?_)
            · as_aux_lemma => kernel_rfl
            · as_aux_lemma => kernel_rfl
            · as_aux_lemma => kernel_rfl
            refine OPC (RUNV (.binOp .add 9 (.tmp 32) (.tmp 35) 9) 36 9 ?_ (Nat.le_of_ble_eq_true rfl) (.string (bs (out ++ (([32]) ++ (Lib.itoa y8))))) (runs_scat (a := out) (b := ([32]) ++ (Lib.itoa y8)) ?_ ?_ (by first | omega | (simp only [List.length_append, List.length_cons, List.length_nil, List.length_take, List.length_drop] at *; omega))) ?_)
            · as_aux_lemma => kernel_rfl
            · as_aux_lemma => kernel_rfl
            · as_aux_lemma => kernel_rfl
            refine RUN0 1 [] [(3, .v (.string (bs (out ++ (([32]) ++ (Lib.itoa y8)))))), (26, .v (.slice a_keep_a a.keep.length a_keep_c)), (27, I (a.keep.length : Int)), (28, I (k : Int))] ?_ rfl ?_
            · as_aux_lemma => kernel_rfl
            refine ENDOPS (OUTN (NEXT (REGION [0, 1] rfl (RUN0 1 [1] [(3, .v (.string (bs (out ++ (([32]) ++ (Lib.itoa y8)))))), (26, .v (.slice a_keep_a a.keep.length a_keep_c)), (27, I (a.keep.length : Int)), (37, I (wr ((k : Int) + 1)))] ?_ rfl ?_))))
            · as_aux_lemma => kernel_rfl
            refine CAST (d := 37) (vi (wr ((k : Int) + 1))) (vi ((k + 1 : Nat) : Int)) ?_ (vi_cast (by omega) (by omega)) ?_
            · as_aux_lemma => kernel_rfl
            refine RUN0 1 [] [(3, .v (.string (bs (out ++ (([32]) ++ (Lib.itoa y8)))))), (26, .v (.slice a_keep_a a.keep.length a_keep_c)), (27, I (a.keep.length : Int)), (28, I ((k + 1 : Nat) : Int))] ?_ rfl ?_
            · as_aux_lemma => kernel_rfl
            refine ENDOPS (BACK (k + 1, ys9, out ++ (([32]) ++ (Lib.itoa y8))) [3, 26, 27, 28] 1 [] _ ⟨hl_y8, hd_y8, hv0.trans (by simp [joinSp]), (by simp only [List.length_append, List.length_cons, List.length_nil]; omega)⟩ (by simp) ?_ rfl rfl rfl)
            · as_aux_lemma => kernel_rfl
          · -- decide ((k : Int) < (a.keep.length : Int)) = false
            have h7 := bh7
            have h7 := of_decide_eq_false h7
            obtain rfl := drop_nil hk (by omega)
            refine EXIT (PASS trivial (PASS trivial (OUT (NEXT (SEQ (REGION [0, 1] rfl (RUN0 2 [] [(2, .v (.string (bs out)))] ?_ rfl ?_)))))))
            · as_aux_lemma => kernel_rfl
            refine ENDOPS (NEXT (RET (FIN (.string (bs out)) ?_ () ?_ [] ?_)))
            · as_aux_lemma => kernel_rfl
            · (simp_all [RV, actLine, joinSp])
            · rfl

theorem exActLine_c (W : World) (aA : Act) (aA_keep_a : Option Addr) (aA_keep_c : Nat) (haA_keep : Rd intL W aA_keep_a aA.keep) (htab : Tab Tryd.prog W) : Spec Tryd.prog W [] 6 #[.agg #[vi aA.kind, vi aA.req.kind, vi aA.req.id, vi aA.req.cabin, vi aA.req.from', vi aA.req.size, vi aA.req.tier, vi aA.n, .slice aA_keep_a aA.keep.length aA_keep_c]] (RV (.bool true)) := by
  refine ENTER0 (N := 27) (vs := [.agg #[vi aA.kind, vi aA.req.kind, vi aA.req.id, vi aA.req.cabin, vi aA.req.from', vi aA.req.size, vi aA.req.tier, vi aA.n, .slice aA_keep_a aA.keep.length aA_keep_c]]) Tryd.func6 rfl rfl (Nat.le_of_ble_eq_true rfl) ?_
  have haA_keep_len := haA_keep.len
  refine SEQ (REGION [0, 1] rfl (RUN 2 [] [(1, .p 0 0)] [(45, [vi aA.kind, vi aA.req.kind, vi aA.req.id, vi aA.req.cabin, vi aA.req.from', vi aA.req.size, vi aA.req.tier, vi aA.n, .slice aA_keep_a aA.keep.length aA_keep_c])] ?_ rfl ?_))
  · as_aux_lemma => kernel_rfl
  refine ENDOPS (NEXT (SEQ (REGION [0] rfl (RUN0 1 [] [(1, .p 0 0), (3, I 1048576)] ?_ rfl ?_))))
  · as_aux_lemma => kernel_rfl
  refine ENDOPS (NEXT (SEQ (REGION [0, 1, 2, 3] rfl (RUN0 2 [2, 3] [(1, .p 0 0), (7, .v (.agg #[vi aA.kind, vi aA.req.kind, vi aA.req.id, vi aA.req.cabin, vi aA.req.from', vi aA.req.size, vi aA.req.tier, vi aA.n, .slice aA_keep_a aA.keep.length aA_keep_c])), (8, I 1048576)] ?_ rfl ?_))))
  · as_aux_lemma => kernel_rfl
  refine OPC (CALL 21 #[.agg #[vi aA.kind, vi aA.req.kind, vi aA.req.id, vi aA.req.cabin, vi aA.req.from', vi aA.req.size, vi aA.req.tier, vi aA.n, .slice aA_keep_a aA.keep.length aA_keep_c], vi 1048576] (some 9) ?_ [] [] _ rfl (RV (vi (szAct aA 1048576))) (fun w hw => szAct_c w aA aA_keep_a aA_keep_c (haA_keep.fr hw.fr) 1048576) (by rintro _ ⟨⟩; exact Nat.le_of_ble_eq_true rfl) ?_)
  · as_aux_lemma => kernel_rfl
  rintro ⟨⟩
  refine RUN0 1 [] [(1, .p 0 0), (3, I (szAct aA 1048576))] ?_ rfl ?_
  · as_aux_lemma => kernel_rfl
  refine ENDOPS (NEXT (SEQ (SEQ (REGION [0, 1] rfl (RUN0 2 [] [(1, .p 0 0), (11, B (decide ((szAct aA 1048576) < 0)))] ?_ rfl ?_)))))
  · as_aux_lemma => kernel_rfl
  refine ENDOPS (NEXT (IF (decide ((szAct aA 1048576) < 0)) ?_ (fun bh1 => ?_) (fun bh1 => ?_)))
  · as_aux_lemma => kernel_rfl
  · -- decide ((szAct aA 1048576) < 0) = true
    have h1 := bh1
    have h1 := of_decide_eq_true h1
    refine SEQ (REGION [0] rfl (RUN0 1 [] [(2, B true)] ?_ rfl ?_))
    · as_aux_lemma => kernel_rfl
    refine ENDOPS (NEXT (RET (PASS trivial (FIN (.bool true) ?_ () ?_ [] ?_))))
    · as_aux_lemma => kernel_rfl
    · simp_all [RV, eqAct_refl]
    · rfl
  · -- decide ((szAct aA 1048576) < 0) = false
    have h1 := bh1
    have h1 := of_decide_eq_false h1
    have hb := szAct_len haA_keep_len h1
    refine SKIP (NEXT (SEQ (REGION [0, 1, 2, 3] rfl (RUN0 1 [1, 2, 3] [(1, .p 0 0), (12, .v (.agg #[vi aA.kind, vi aA.req.kind, vi aA.req.id, vi aA.req.cabin, vi aA.req.from', vi aA.req.size, vi aA.req.tier, vi aA.n, .slice aA_keep_a aA.keep.length aA_keep_c]))] ?_ rfl ?_))))
    · as_aux_lemma => kernel_rfl
    refine OPC (CALL 23 #[.agg #[vi aA.kind, vi aA.req.kind, vi aA.req.id, vi aA.req.cabin, vi aA.req.from', vi aA.req.size, vi aA.req.tier, vi aA.n, .slice aA_keep_a aA.keep.length aA_keep_c]] (some 13) ?_ [] [] _ rfl (⟨HH, fun p => .agg #[vi aA.kind, vi aA.req.kind, vi aA.req.id, vi aA.req.cabin, vi aA.req.from', vi aA.req.size, vi aA.req.tier, vi aA.n, .slice p.1 aA.keep.length p.2], fun p => [slA 3 intL (.slice p.1 aA.keep.length p.2) aA.keep]⟩) (fun w hw => toAct_c w aA aA_keep_a aA_keep_c (haA_keep.fr hw.fr) (by first | omega | (simp only [List.length_append, List.length_cons, List.length_nil, List.length_take, List.length_drop] at *; omega))) (by rintro _ ⟨⟩; exact Nat.le_of_ble_eq_true rfl) ?_)
    · as_aux_lemma => kernel_rfl
    rintro ⟨a2, c3⟩
    refine OPC (CALL 22 #[.agg #[vi aA.kind, vi aA.req.kind, vi aA.req.id, vi aA.req.cabin, vi aA.req.from', vi aA.req.size, vi aA.req.tier, vi aA.n, .slice a2 aA.keep.length c3]] (some 14) ?_ [] [] _ rfl (RV (.string (bs (actLine aA)))) (fun w hw => sActLine_c w aA a2 c3 (Rd.own (hw.own 0 rfl))) (by rintro _ ⟨⟩; exact Nat.le_of_ble_eq_true rfl) ?_)
    · as_aux_lemma => kernel_rfl
    rintro ⟨⟩
    refine RUN0 1 [] [(1, .p 0 0), (4, .v (.string (bs (actLine aA))))] ?_ rfl ?_
    · as_aux_lemma => kernel_rfl
    refine ENDOPS (NEXT (SEQ (REGION [0, 1, 2, 3] rfl (RUN0 1 [1, 2, 3] [(1, .p 0 0), (4, .v (.string (bs (actLine aA)))), (15, .v (.agg #[vi aA.kind, vi aA.req.kind, vi aA.req.id, vi aA.req.cabin, vi aA.req.from', vi aA.req.size, vi aA.req.tier, vi aA.n, .slice aA_keep_a aA.keep.length aA_keep_c]))] ?_ rfl ?_))))
    · as_aux_lemma => kernel_rfl
    refine OPC (CALL 23 #[.agg #[vi aA.kind, vi aA.req.kind, vi aA.req.id, vi aA.req.cabin, vi aA.req.from', vi aA.req.size, vi aA.req.tier, vi aA.n, .slice aA_keep_a aA.keep.length aA_keep_c]] (some 16) ?_ [] [] _ rfl (⟨HH, fun p => .agg #[vi aA.kind, vi aA.req.kind, vi aA.req.id, vi aA.req.cabin, vi aA.req.from', vi aA.req.size, vi aA.req.tier, vi aA.n, .slice p.1 aA.keep.length p.2], fun p => [slA 3 intL (.slice p.1 aA.keep.length p.2) aA.keep]⟩) (fun w hw => toAct_c w aA aA_keep_a aA_keep_c (haA_keep.fr hw.fr) (by first | omega | (simp only [List.length_append, List.length_cons, List.length_nil, List.length_take, List.length_drop] at *; omega))) (by rintro _ ⟨⟩; exact Nat.le_of_ble_eq_true rfl) ?_)
    · as_aux_lemma => kernel_rfl
    rintro ⟨a4, c5⟩
    refine RUN 2 [] [(1, .p 0 0), (4, .v (.string (bs (actLine aA)))), (5, .p 1 0)] [(45, [vi aA.kind, vi aA.req.kind, vi aA.req.id, vi aA.req.cabin, vi aA.req.from', vi aA.req.size, vi aA.req.tier, vi aA.n, .slice aA_keep_a aA.keep.length aA_keep_c]), (49, [vi aA.kind, vi aA.req.kind, vi aA.req.id, vi aA.req.cabin, vi aA.req.from', vi aA.req.size, vi aA.req.tier, vi aA.n, .slice a4 aA.keep.length c5])] ?_ rfl ?_
    · as_aux_lemma => kernel_rfl
    refine ENDOPS (NEXT (SEQ (REGION [0, 1, 2] rfl (RUN0 1 [1, 2] [(1, .p 0 0), (4, .v (.string (bs (actLine aA)))), (5, .p 1 0), (17, .v (.agg #[vi aA.kind, vi aA.req.kind, vi aA.req.id, vi aA.req.cabin, vi aA.req.from', vi aA.req.size, vi aA.req.tier, vi aA.n, .slice a4 aA.keep.length c5]))] ?_ rfl ?_))))
    · as_aux_lemma => kernel_rfl
    refine OPC (CALL 24 #[.agg #[vi aA.kind, vi aA.req.kind, vi aA.req.id, vi aA.req.cabin, vi aA.req.from', vi aA.req.size, vi aA.req.tier, vi aA.n, .slice a4 aA.keep.length c5]] (some 18) ?_ [] [] _ rfl (RV (.string (bs (actLine aA)))) (fun w hw => iActLine_c w aA a4 c5 (Rd.own (hw.own 1 rfl)) (htab.fr hw.fr)) (by rintro _ ⟨⟩; exact Nat.le_of_ble_eq_true rfl) ?_)
    · as_aux_lemma => kernel_rfl
    rintro ⟨⟩
    refine RUN0 1 [] [(1, .p 0 0), (4, .v (.string (bs (actLine aA)))), (5, .p 1 0), (6, .v (.string (bs (actLine aA))))] ?_ rfl ?_
    · as_aux_lemma => kernel_rfl
    refine ENDOPS (NEXT (SEQ (SEQ (REGION [0, 1, 2] rfl (RUN0 2 [2] [(1, .p 0 0), (5, .p 1 0), (19, .v (.string (bs (actLine aA)))), (20, .v (.string (bs (actLine aA))))] ?_ rfl ?_)))))
    · as_aux_lemma => kernel_rfl
    refine OPC (RUNV (.binOp .neq 9 (.tmp 19) (.tmp 20) 9) 21 4 ?_ (Nat.le_of_ble_eq_true rfl) (.bool (!((actLine aA) == (actLine aA)))) (runs_sneq (a := actLine aA) (b := actLine aA) ?_ ?_) ?_)
    · as_aux_lemma => kernel_rfl
    · as_aux_lemma => kernel_rfl
    · as_aux_lemma => kernel_rfl
    refine ENDOPS (NEXT (IF (!((actLine aA) == (actLine aA))) ?_ (fun bh6 => ?_) (fun bh6 => ?_)))
    · as_aux_lemma => kernel_rfl
    · -- !((actLine aA) == (actLine aA)) = true
      have h6 := bh6
      have h6 := notT h6
      have h6 := ne_of_beq_false h6
      refine SEQ (REGION [0] rfl (RUN0 1 [] [(2, B false)] ?_ rfl ?_))
      · as_aux_lemma => kernel_rfl
      refine ENDOPS (NEXT (RET (PASS trivial (FIN (.bool false) ?_ () ?_ [] ?_))))
      · as_aux_lemma => kernel_rfl
      · simp_all [RV, eqAct_refl]
      · rfl
    · -- !((actLine aA) == (actLine aA)) = false
      have h6 := bh6
      have h6 := notF h6
      have h6 := eq_of_beq h6
      refine SKIP (NEXT (SEQ (SEQ (REGIOND ?_ 5 rfl ?_))))
      · as_aux_lemma => kernel_rfl
      refine ANY2 0 1 ?_ ?_ ?_
      · as_aux_lemma => kernel_rfl
      · -- operation 0 next
        refine RUNO [(1, .p 0 0), (22, .v (.agg #[vi aA.kind, vi aA.req.kind, vi aA.req.id, vi aA.req.cabin, vi aA.req.from', vi aA.req.size, vi aA.req.tier, vi aA.n, .slice a4 aA.keep.length c5]))] [(45, [vi aA.kind, vi aA.req.kind, vi aA.req.id, vi aA.req.cabin, vi aA.req.from', vi aA.req.size, vi aA.req.tier, vi aA.n, .slice aA_keep_a aA.keep.length aA_keep_c]), (49, [vi aA.kind, vi aA.req.kind, vi aA.req.id, vi aA.req.cabin, vi aA.req.from', vi aA.req.size, vi aA.req.tier, vi aA.n, .slice a4 aA.keep.length c5])] ?_ ?_
        · as_aux_lemma => kernel_rfl
        refine ANY1 1 ?_ ?_
        · as_aux_lemma => kernel_rfl
        refine RUNO [(22, .v (.agg #[vi aA.kind, vi aA.req.kind, vi aA.req.id, vi aA.req.cabin, vi aA.req.from', vi aA.req.size, vi aA.req.tier, vi aA.n, .slice a4 aA.keep.length c5])), (23, .v (.agg #[vi aA.kind, vi aA.req.kind, vi aA.req.id, vi aA.req.cabin, vi aA.req.from', vi aA.req.size, vi aA.req.tier, vi aA.n, .slice aA_keep_a aA.keep.length aA_keep_c]))] [(45, [vi aA.kind, vi aA.req.kind, vi aA.req.id, vi aA.req.cabin, vi aA.req.from', vi aA.req.size, vi aA.req.tier, vi aA.n, .slice aA_keep_a aA.keep.length aA_keep_c]), (49, [vi aA.kind, vi aA.req.kind, vi aA.req.id, vi aA.req.cabin, vi aA.req.from', vi aA.req.size, vi aA.req.tier, vi aA.n, .slice a4 aA.keep.length c5])] ?_ ?_
        · as_aux_lemma => kernel_rfl
        refine ANY1 2 ?_ ?_
        · as_aux_lemma => kernel_rfl
        refine CALL 23 #[.agg #[vi aA.kind, vi aA.req.kind, vi aA.req.id, vi aA.req.cabin, vi aA.req.from', vi aA.req.size, vi aA.req.tier, vi aA.n, .slice aA_keep_a aA.keep.length aA_keep_c]] (some 24) ?_ [] [] _ rfl (⟨HH, fun p => .agg #[vi aA.kind, vi aA.req.kind, vi aA.req.id, vi aA.req.cabin, vi aA.req.from', vi aA.req.size, vi aA.req.tier, vi aA.n, .slice p.1 aA.keep.length p.2], fun p => [slA 3 intL (.slice p.1 aA.keep.length p.2) aA.keep]⟩) (fun w hw => toAct_c w aA aA_keep_a aA_keep_c (haA_keep.fr hw.fr) (by first | omega | (simp only [List.length_append, List.length_cons, List.length_nil, List.length_take, List.length_drop] at *; omega))) (by rintro _ ⟨⟩; exact Nat.le_of_ble_eq_true rfl) ?_
        · as_aux_lemma => kernel_rfl
        rintro ⟨a7, c8⟩
        refine ANY1 3 ?_ ?_
        · as_aux_lemma => kernel_rfl
        refine CALL 25 #[.agg #[vi aA.kind, vi aA.req.kind, vi aA.req.id, vi aA.req.cabin, vi aA.req.from', vi aA.req.size, vi aA.req.tier, vi aA.n, .slice a4 aA.keep.length c5], .agg #[vi aA.kind, vi aA.req.kind, vi aA.req.id, vi aA.req.cabin, vi aA.req.from', vi aA.req.size, vi aA.req.tier, vi aA.n, .slice a7 aA.keep.length c8]] (some 25) ?_ [] [] _ rfl (RV (.bool (eqAct aA aA))) (fun w hw => eqAct_c w aA a4 c5 (Rd.own (hw.own 1 rfl)) aA a7 c8 (Rd.own (hw.own 2 rfl))) (by rintro _ ⟨⟩; exact Nat.le_of_ble_eq_true rfl) ?_
        · as_aux_lemma => kernel_rfl
        rintro ⟨⟩
        refine ANY1 4 ?_ ?_
        · as_aux_lemma => kernel_rfl
        refine RUNO [(26, B (!(eqAct aA aA)))] [(45, [vi aA.kind, vi aA.req.kind, vi aA.req.id, vi aA.req.cabin, vi aA.req.from', vi aA.req.size, vi aA.req.tier, vi aA.n, .slice aA_keep_a aA.keep.length aA_keep_c]), (49, [vi aA.kind, vi aA.req.kind, vi aA.req.id, vi aA.req.cabin, vi aA.req.from', vi aA.req.size, vi aA.req.tier, vi aA.n, .slice a4 aA.keep.length c5])] ?_ ?_
        · as_aux_lemma => kernel_rfl
        refine ANYEND ?_ ?_
        · as_aux_lemma => kernel_rfl
        refine NEXT (IF (!(eqAct aA aA)) ?_ (fun bh9 => ?_) (fun bh9 => ?_))
        · as_aux_lemma => kernel_rfl
        · -- !(eqAct aA aA) = true
          have h9 := bh9
          have h9 := notT h9
          refine SEQ (REGION [0] rfl (RUN0 1 [] [(2, B false)] ?_ rfl ?_))
          · as_aux_lemma => kernel_rfl
          refine ENDOPS (NEXT (RET (PASS trivial (FIN (.bool false) ?_ () ?_ [] ?_))))
          · as_aux_lemma => kernel_rfl
          · simp_all [RV, eqAct_refl]
          · rfl
        · -- !(eqAct aA aA) = false
          have h9 := bh9
          have h9 := notF h9
          refine SKIP (NEXT (SEQ (REGION [0] rfl (RUN0 1 [] [(2, B true)] ?_ rfl ?_))))
          · as_aux_lemma => kernel_rfl
          refine ENDOPS (NEXT (RET (FIN (.bool true) ?_ () ?_ [] ?_)))
          · as_aux_lemma => kernel_rfl
          · simp_all [RV, eqAct_refl]
          · rfl
      · -- operation 1 next
        refine RUNO [(5, .p 1 0), (23, .v (.agg #[vi aA.kind, vi aA.req.kind, vi aA.req.id, vi aA.req.cabin, vi aA.req.from', vi aA.req.size, vi aA.req.tier, vi aA.n, .slice aA_keep_a aA.keep.length aA_keep_c]))] [(45, [vi aA.kind, vi aA.req.kind, vi aA.req.id, vi aA.req.cabin, vi aA.req.from', vi aA.req.size, vi aA.req.tier, vi aA.n, .slice aA_keep_a aA.keep.length aA_keep_c]), (49, [vi aA.kind, vi aA.req.kind, vi aA.req.id, vi aA.req.cabin, vi aA.req.from', vi aA.req.size, vi aA.req.tier, vi aA.n, .slice a4 aA.keep.length c5])] ?_ ?_
        · as_aux_lemma => kernel_rfl
        refine ANY2 0 2 ?_ ?_ ?_
        · as_aux_lemma => kernel_rfl
        · -- operation 0 next
          refine RUNO [(22, .v (.agg #[vi aA.kind, vi aA.req.kind, vi aA.req.id, vi aA.req.cabin, vi aA.req.from', vi aA.req.size, vi aA.req.tier, vi aA.n, .slice a4 aA.keep.length c5])), (23, .v (.agg #[vi aA.kind, vi aA.req.kind, vi aA.req.id, vi aA.req.cabin, vi aA.req.from', vi aA.req.size, vi aA.req.tier, vi aA.n, .slice aA_keep_a aA.keep.length aA_keep_c]))] [(45, [vi aA.kind, vi aA.req.kind, vi aA.req.id, vi aA.req.cabin, vi aA.req.from', vi aA.req.size, vi aA.req.tier, vi aA.n, .slice aA_keep_a aA.keep.length aA_keep_c]), (49, [vi aA.kind, vi aA.req.kind, vi aA.req.id, vi aA.req.cabin, vi aA.req.from', vi aA.req.size, vi aA.req.tier, vi aA.n, .slice a4 aA.keep.length c5])] ?_ ?_
          · as_aux_lemma => kernel_rfl
          refine ANY1 2 ?_ ?_
          · as_aux_lemma => kernel_rfl
          refine CALL 23 #[.agg #[vi aA.kind, vi aA.req.kind, vi aA.req.id, vi aA.req.cabin, vi aA.req.from', vi aA.req.size, vi aA.req.tier, vi aA.n, .slice aA_keep_a aA.keep.length aA_keep_c]] (some 24) ?_ [] [] _ rfl (⟨HH, fun p => .agg #[vi aA.kind, vi aA.req.kind, vi aA.req.id, vi aA.req.cabin, vi aA.req.from', vi aA.req.size, vi aA.req.tier, vi aA.n, .slice p.1 aA.keep.length p.2], fun p => [slA 3 intL (.slice p.1 aA.keep.length p.2) aA.keep]⟩) (fun w hw => toAct_c w aA aA_keep_a aA_keep_c (haA_keep.fr hw.fr) (by first | omega | (simp only [List.length_append, List.length_cons, List.length_nil, List.length_take, List.length_drop] at *; omega))) (by rintro _ ⟨⟩; exact Nat.le_of_ble_eq_true rfl) ?_
          · as_aux_lemma => kernel_rfl
          rintro ⟨a10, c11⟩
          refine ANY1 3 ?_ ?_
          · as_aux_lemma => kernel_rfl
          refine CALL 25 #[.agg #[vi aA.kind, vi aA.req.kind, vi aA.req.id, vi aA.req.cabin, vi aA.req.from', vi aA.req.size, vi aA.req.tier, vi aA.n, .slice a4 aA.keep.length c5], .agg #[vi aA.kind, vi aA.req.kind, vi aA.req.id, vi aA.req.cabin, vi aA.req.from', vi aA.req.size, vi aA.req.tier, vi aA.n, .slice a10 aA.keep.length c11]] (some 25) ?_ [] [] _ rfl (RV (.bool (eqAct aA aA))) (fun w hw => eqAct_c w aA a4 c5 (Rd.own (hw.own 1 rfl)) aA a10 c11 (Rd.own (hw.own 2 rfl))) (by rintro _ ⟨⟩; exact Nat.le_of_ble_eq_true rfl) ?_
          · as_aux_lemma => kernel_rfl
          rintro ⟨⟩
          refine ANY1 4 ?_ ?_
          · as_aux_lemma => kernel_rfl
          refine RUNO [(26, B (!(eqAct aA aA)))] [(45, [vi aA.kind, vi aA.req.kind, vi aA.req.id, vi aA.req.cabin, vi aA.req.from', vi aA.req.size, vi aA.req.tier, vi aA.n, .slice aA_keep_a aA.keep.length aA_keep_c]), (49, [vi aA.kind, vi aA.req.kind, vi aA.req.id, vi aA.req.cabin, vi aA.req.from', vi aA.req.size, vi aA.req.tier, vi aA.n, .slice a4 aA.keep.length c5])] ?_ ?_
          · as_aux_lemma => kernel_rfl
          refine ANYEND ?_ ?_
          · as_aux_lemma => kernel_rfl
          refine NEXT (IF (!(eqAct aA aA)) ?_ (fun bh12 => ?_) (fun bh12 => ?_))
          · as_aux_lemma => kernel_rfl
          · -- !(eqAct aA aA) = true
            have h12 := bh12
            have h12 := notT h12
            refine SEQ (REGION [0] rfl (RUN0 1 [] [(2, B false)] ?_ rfl ?_))
            · as_aux_lemma => kernel_rfl
            refine ENDOPS (NEXT (RET (PASS trivial (FIN (.bool false) ?_ () ?_ [] ?_))))
            · as_aux_lemma => kernel_rfl
            · simp_all [RV, eqAct_refl]
            · rfl
          · -- !(eqAct aA aA) = false
            have h12 := bh12
            have h12 := notF h12
            refine SKIP (NEXT (SEQ (REGION [0] rfl (RUN0 1 [] [(2, B true)] ?_ rfl ?_))))
            · as_aux_lemma => kernel_rfl
            refine ENDOPS (NEXT (RET (FIN (.bool true) ?_ () ?_ [] ?_)))
            · as_aux_lemma => kernel_rfl
            · simp_all [RV, eqAct_refl]
            · rfl
        · -- operation 2 next
          refine CALL 23 #[.agg #[vi aA.kind, vi aA.req.kind, vi aA.req.id, vi aA.req.cabin, vi aA.req.from', vi aA.req.size, vi aA.req.tier, vi aA.n, .slice aA_keep_a aA.keep.length aA_keep_c]] (some 24) ?_ [] [] _ rfl (⟨HH, fun p => .agg #[vi aA.kind, vi aA.req.kind, vi aA.req.id, vi aA.req.cabin, vi aA.req.from', vi aA.req.size, vi aA.req.tier, vi aA.n, .slice p.1 aA.keep.length p.2], fun p => [slA 3 intL (.slice p.1 aA.keep.length p.2) aA.keep]⟩) (fun w hw => toAct_c w aA aA_keep_a aA_keep_c (haA_keep.fr hw.fr) (by first | omega | (simp only [List.length_append, List.length_cons, List.length_nil, List.length_take, List.length_drop] at *; omega))) (by rintro _ ⟨⟩; exact Nat.le_of_ble_eq_true rfl) ?_
          · as_aux_lemma => kernel_rfl
          rintro ⟨a13, c14⟩
          refine ANY1 0 ?_ ?_
          · as_aux_lemma => kernel_rfl
          refine RUNO [(22, .v (.agg #[vi aA.kind, vi aA.req.kind, vi aA.req.id, vi aA.req.cabin, vi aA.req.from', vi aA.req.size, vi aA.req.tier, vi aA.n, .slice a4 aA.keep.length c5])), (24, .v (.agg #[vi aA.kind, vi aA.req.kind, vi aA.req.id, vi aA.req.cabin, vi aA.req.from', vi aA.req.size, vi aA.req.tier, vi aA.n, .slice a13 aA.keep.length c14]))] [(45, [vi aA.kind, vi aA.req.kind, vi aA.req.id, vi aA.req.cabin, vi aA.req.from', vi aA.req.size, vi aA.req.tier, vi aA.n, .slice aA_keep_a aA.keep.length aA_keep_c]), (49, [vi aA.kind, vi aA.req.kind, vi aA.req.id, vi aA.req.cabin, vi aA.req.from', vi aA.req.size, vi aA.req.tier, vi aA.n, .slice a4 aA.keep.length c5])] ?_ ?_
          · as_aux_lemma => kernel_rfl
          refine ANY1 3 ?_ ?_
          · as_aux_lemma => kernel_rfl
          refine CALL 25 #[.agg #[vi aA.kind, vi aA.req.kind, vi aA.req.id, vi aA.req.cabin, vi aA.req.from', vi aA.req.size, vi aA.req.tier, vi aA.n, .slice a4 aA.keep.length c5], .agg #[vi aA.kind, vi aA.req.kind, vi aA.req.id, vi aA.req.cabin, vi aA.req.from', vi aA.req.size, vi aA.req.tier, vi aA.n, .slice a13 aA.keep.length c14]] (some 25) ?_ [] [] _ rfl (RV (.bool (eqAct aA aA))) (fun w hw => eqAct_c w aA a4 c5 (Rd.own (hw.own 1 rfl)) aA a13 c14 (Rd.own (hw.own 2 rfl))) (by rintro _ ⟨⟩; exact Nat.le_of_ble_eq_true rfl) ?_
          · as_aux_lemma => kernel_rfl
          rintro ⟨⟩
          refine ANY1 4 ?_ ?_
          · as_aux_lemma => kernel_rfl
          refine RUNO [(26, B (!(eqAct aA aA)))] [(45, [vi aA.kind, vi aA.req.kind, vi aA.req.id, vi aA.req.cabin, vi aA.req.from', vi aA.req.size, vi aA.req.tier, vi aA.n, .slice aA_keep_a aA.keep.length aA_keep_c]), (49, [vi aA.kind, vi aA.req.kind, vi aA.req.id, vi aA.req.cabin, vi aA.req.from', vi aA.req.size, vi aA.req.tier, vi aA.n, .slice a4 aA.keep.length c5])] ?_ ?_
          · as_aux_lemma => kernel_rfl
          refine ANYEND ?_ ?_
          · as_aux_lemma => kernel_rfl
          refine NEXT (IF (!(eqAct aA aA)) ?_ (fun bh15 => ?_) (fun bh15 => ?_))
          · as_aux_lemma => kernel_rfl
          · -- !(eqAct aA aA) = true
            have h15 := bh15
            have h15 := notT h15
            refine SEQ (REGION [0] rfl (RUN0 1 [] [(2, B false)] ?_ rfl ?_))
            · as_aux_lemma => kernel_rfl
            refine ENDOPS (NEXT (RET (PASS trivial (FIN (.bool false) ?_ () ?_ [] ?_))))
            · as_aux_lemma => kernel_rfl
            · simp_all [RV, eqAct_refl]
            · rfl
          · -- !(eqAct aA aA) = false
            have h15 := bh15
            have h15 := notF h15
            refine SKIP (NEXT (SEQ (REGION [0] rfl (RUN0 1 [] [(2, B true)] ?_ rfl ?_))))
            · as_aux_lemma => kernel_rfl
            refine ENDOPS (NEXT (RET (FIN (.bool true) ?_ () ?_ [] ?_)))
            · as_aux_lemma => kernel_rfl
            · simp_all [RV, eqAct_refl]
            · rfl

end SX
end Go.Proofs.YtkkmfnfafkeeeaaDoor
